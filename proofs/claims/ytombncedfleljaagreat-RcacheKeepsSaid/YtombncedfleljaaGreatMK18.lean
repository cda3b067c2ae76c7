/- Parts: Answers of the disk as errors; frame.Entry of any entry. | frame.ParseEntry. | slot.Commit, slot.Put. | slot.Put. | slot.Fill. -/
import Derived.Test.YtombncedfleljaaGreatMK17
import Derived.Test.YtombncedfleljaaGreatMK11
import Derived.Test.YtombncedfleljaaGreatMK12
import Derived.Test.YtombncedfleljaaGreatMK2
import Derived.Test.YtombncedfleljaaGreatMK14
namespace Go.Proofs.YtombncedfleljaaGreat
open Go.RowKit
attribute [local irreducible] wpQuiet wpAnyH
set_option linter.unusedSimpArgs false

abbrev Ans := Option (Int × Option Int)
def valE : Ans → Value
  | none => .nilIface
  | some (c, o) => baseVal c o
def codeA : Ans → Int
  | none => 0
  | some (c, _) => c
def writeA (d : DiskD) (a : Int) : Ans :=
  if d.down then some (12, none) else if outS d = 2 then some (12, none) else if outS d = 1 then some (11, none) else if hasB d a then none else some (15, some a)
def syncA (d : DiskD) : Ans := if d.down then some (12, none) else if outS d = 2 then some (12, none) else if outS d = 1 then some (11, none) else none
theorem writeE_val (d : DiskD) (a : Int) : writeE d a = valE (writeA d a) := by
  unfold writeE writeA
  split; · rfl
  split; · rfl
  split; · rfl
  split <;> rfl
theorem syncE_val (d : DiskD) : syncE d = valE (syncA d) := by
  unfold syncE syncA
  split; · rfl
  split; · rfl
  split <;> rfl
theorem valE_form (x : Int × Option Int) : ∃ t u, valE (some x) = .iface t u := by
  obtain ⟨c, o⟩ := x
  cases o <;> exact ⟨_, _, rfl⟩
theorem code_val (o : Ans) (w : World) : Calls Tryz.prog 54 #[valE o] w fun e w' => e = .returned (.int .i64 (codeA o)) ∧ Below w.heap.size w w' := by
  cases o with
  | none => exact code_nil w
  | some x => obtain ⟨c, p⟩ := x; exact code_base w c p

def entRec (g : Nat) (q : List Int × Int) : List Int := rec g (q.1 ++ beB 8 q.2.toNat)
theorem frame_entry (g : Nat) (q : List Int × Int) (w : World) (hq : EntOk q) (hg : g < 4294967296) :
    Calls Tryz.prog 80 #[.int .u32 g, .agg (entP q).toArray] w fun e w' => e = .returned (.tuple #[.agg (u8s (if rightE q then entRec g q else zsec)).toArray, .bool (rightE q)]) ∧ Below w.heap.size w w' := by
  cases hr : rightE q with
  | true =>
    have h2 : 0 ≤ q.2 ∧ q.2 ≤ 4611686018427387904 := by unfold rightE at hr; simpa using hr
    have h := frame_entry_ok g q.2.toNat q w hq (by omega) (by omega) hg
    rw [if_pos rfl]
    exact h
  | false =>
    rw [if_neg (by simp)]
    have HZ := Lib.hid z64_zsec
    have HZ1 : Hid (z64.all (·.oneCell') = true) := Lib.hid (by rw [z64_zsec]; exact u8s_one _)
    have hzl : z64.size = 64 := z64_size
    have hB0 : Blk (w.alloc (.cells (entP q).toArray 35)) w.heap.size 35 (entP q).toArray := Blk.new _ _ _
    have hc : (w.alloc (.cells (entP q).toArray 35)).cell? ⟨w.heap.size, 32, none⟩ = some (.int .i64 q.2) := by
      rw [hB0.cell 32]
      have hl : (u8s q.1).length = 32 := by rw [u8s_length, hq.dig.len]
      show (entC q.1 q.2).toArray[32]? = _
      simp [entC, hl]
    obtain ⟨E, hE⟩ : ∃ E, E = (entP q).toArray := ⟨_, rfl⟩
    rw [← hE] at hc ⊢
    clear hE hB0
    have hc2 : ((w.alloc (.cells E 35)).alloc (.cells z64 144)).cell? ⟨w.heap.size, 32, none⟩ = some (.int .i64 q.2) := Below.cell' ((Below.refl _ _).alloc (Nat.le_refl _) _) hc
    have HB1 : Hid (Blk ((w.alloc (.cells E 35)).alloc (.cells z64 144)) (w.heap.size + 1) 144 z64) := Lib.hid (Blk.newAt _ _ _ _ (by simp))
    have HBW : Hid (Below w.heap.size w ((w.alloc (.cells E 35)).alloc (.cells z64 144))) := Lib.hid (((Below.refl _ w).alloc (Nat.le_refl _) _).alloc (by simp) _)
    have HSZ : Hid ((w.alloc (.cells E 35)).heap.size = w.heap.size + 1) := Lib.hid (by simp)
    clear hc
    obtain ⟨x, hx⟩ : ∃ x, x = q.2 := ⟨_, rfl⟩
    rw [← hx] at hc2
    have hbad : x < 0 ∨ 4611686018427387904 < x := by
      unfold rightE at hr
      rw [← hx] at hr
      by_cases h : x < 0
      · exact .inl h
      · right
        have h0 : 0 ≤ x := by omega
        simp [h0] at hr
        omega
    clear hx hr
    rcases Bool.eq_false_or_eq_true (decide (x < 0)) with t1 | t1
    · go_enter Tryz.func80, Tryz.ntmps80
      go_wp2_with (first
        | (refine al 144 z64 rfl rfl zero64 ?_)
        | (refine bld 144 #[] rfl rfl rfl built64 ?_)
        | (refine stBlk 144 (.tmp 4) (.tmp 14) rfl rfl (by first | rfl | (rw [HSZ.out]; rfl) | (simp only [World.size_alloc]; rfl)) rfl HB1.out (by rw [hzl]; kernel_rfl) rfl HZ1.out ?_; intro w3 hB3 hb3 _ _; have HB3 := Lib.hid hB3; have HE3 := Lib.hid hb3; clear hB3 hb3))
      have hr : w3.rangeAt (w.heap.size + 1) 0 (u8s zsec) := by have h := HB3.out.range; rw [HZ.out, List.toList_toArray] at h; exact h
      exact bodyPost_ret (results_cellR_tmp rfl _ (by first | rfl | (simp only [World.size_alloc]; rfl)) hr Tryz.underlying144 rfl (by rw [sec_length zsec_sec]; kernel_rfl)) rfl ⟨rfl, HBW.out.trans (HE3.out.mono (by omega))⟩
    · have t2 : decide ((4611686018427387904 : Int) < x) = true := by have := of_decide_eq_false t1; simp; omega
      go_enter Tryz.func80, Tryz.ntmps80
      go_wp2_with (first
        | (refine al 144 z64 rfl rfl zero64 ?_)
        | (refine bld 144 #[] rfl rfl rfl built64 ?_)
        | (refine stBlk 144 (.tmp 4) (.tmp 14) rfl rfl (by first | rfl | (rw [HSZ.out]; rfl) | (simp only [World.size_alloc]; rfl)) rfl HB1.out (by rw [hzl]; kernel_rfl) rfl HZ1.out ?_; intro w3 hB3 hb3 _ _; have HB3 := Lib.hid hB3; have HE3 := Lib.hid hb3; clear hB3 hb3))
      have hr : w3.rangeAt (w.heap.size + 1) 0 (u8s zsec) := by have h := HB3.out.range; rw [HZ.out, List.toList_toArray] at h; exact h
      exact bodyPost_ret (results_cellR_tmp rfl _ (by first | rfl | (simp only [World.size_alloc]; rfl)) hr Tryz.underlying144 rfl (by rw [sec_length zsec_sec]; kernel_rfl)) rfl ⟨rfl, HBW.out.trans (HE3.out.mono (by omega))⟩
end Go.Proofs.YtombncedfleljaaGreat
namespace Go.Proofs.YtombncedfleljaaGreat
open Go.RowKit
attribute [local irreducible] wpQuiet wpAnyH
set_option linter.unusedSimpArgs false

def zE : Array Value := (entP (List.replicate 32 0, 0)).toArray
theorem zeroE : ∀ w, (zeroValue 35).run Tryz.prog w = .ok (.agg zE) w := fun w => by unfold zE; kernel_rfl
theorem builtE : Tryz.prog.built 35 [] = some zE := by unfold zE; kernel_rfl
theorem zE_size : zE.size = 33 := by simp [zE, entP, entC, u8s]
theorem zE_one : zE.all (·.oneCell') = true := entC_one _ _
/-- The generation and the entry of an entry's record, if it is one. -/
def prsE (s : List Int) : Option (Nat × (List Int × Int)) := match prs s with
  | none => none
  | some (g, p) => if p.length = 40 ∧ beN (p.drop 32) ≤ 4611686018427387904 then some (g, (p.take 32, (beN (p.drop 32) : Int))) else none

theorem prs_len {s : List Int} {g : Nat} {p : List Int} (h : prs s = some (g, p)) : p.length ≤ 54 := by
  unfold prs at h
  split at h
  · cases h
  · rename_i hn
    split at h
    · cases h
    · split at h
      · cases h
      · injection h with h
        injection h with _ h
        rw [← h, List.length_take]
        omega
theorem results_cellR_mid {P : Program} {w : World} {fn : Func} {p u x : Tmp} {ty : TypeId} (h : fn.results = #[.tmp u, .cell p ty, .tmp x]) (tmps : Array Value) {b off : Nat} {cs : List Value} {d : TypeDesc} (hp : tmps.getD p undef = .pointer (some ⟨b, off, none⟩)) (hc : w.rangeAt b off cs)
    (hu : P.underlying ty = some d) (hd : d.isRow = true) (hi : (P.info? ty).map (·.size) = some cs.length) : (results fn tmps).run P w = .ok (.tuple #[tmps.getD u undef, .agg cs.toArray, tmps.getD x undef]) w := by
  have h1 : tmps[p]?.getD undef = .pointer (some ⟨b, off, none⟩) := by simpa using hp
  simp [results, h, h1, asAddr, Sem.run_bind, Result.andThen, run_loadVar_mid w b off ty cs d hc hu hd hi]

theorem rd_take32 (r : Nat) (v : Value) (p : List Int) (w : World) (h : RD w r v p false) (hl : p.length ≤ 1000000) :
    Calls Tryz.prog 145 #[.pointer (some ⟨r, 0, none⟩), .int .i64 32] w fun e w' => Off r w w' ∧ ∃ x v' xs ys bad, e = .returned x ∧ xs.length ≤ 32 ∧ Sn w' 1 x xs.length (u8s xs) ∧ RD w' r v' ys bad ∧ (∀ b, v'.ownBlock = some b → v.ownBlock = some b) ∧
      ((bad = false ∧ 32 ≤ p.length ∧ xs = p.take 32 ∧ ys = p.drop 32) ∨ (bad = true ∧ p.length < 32 ∧ xs = [] ∧ ys = [])) := by
  refine (rd_TakeF r v p false 32 w h hl (by omega)).mono ?_
  rintro e w1 ⟨ho, ⟨_, h32, x, v', rfl, hs, hR, hob⟩ | ⟨hbad, rfl, hR⟩⟩
  · have hlen : (p.take 32).length = 32 := by rw [List.length_take]; omega
    exact ⟨ho, x, v', p.take 32, p.drop 32, false, rfl, by omega, by rw [hlen]; exact hs, hR, hob, .inl ⟨rfl, h32, rfl, rfl⟩⟩
  · refine ⟨ho, _, _, [], [], true, rfl, by simp, ⟨none, 0, rfl, Nat.le_refl _, rfl, fun h => absurd h (by simp)⟩, hR, (fun b e => by cases e), .inr ⟨rfl, ?_, rfl, rfl⟩⟩
    rcases hbad with h | h
    · cases h
    · exact h
theorem rd_num8 (r : Nat) (v : Value) (ys : List Int) (bad : Bool) (w : World) (h : RD w r v ys bad) (hb : Bys ys) (hl : ys.length ≤ 1000000) :
    Calls Tryz.prog 121 #[.pointer (some ⟨r, 0, none⟩), .int .i64 8] w fun e w' => Off r w w' ∧ ∃ (N : Nat) (v' : Value) (zs : List Int) (bad' : Bool), e = .returned (.int .u64 N) ∧ N < 18446744073709551616 ∧ RD w' r v' zs bad' ∧
      ((bad = false ∧ 8 ≤ ys.length ∧ bad' = false ∧ N = beN (ys.take 8) ∧ zs = ys.drop 8) ∨ ((bad = true ∨ ys.length < 8) ∧ bad' = true)) := by
  refine (rd_Number r v ys bad 8 w h hb hl (by omega) (by omega)).mono ?_
  rintro e w1 ⟨ho, ⟨hbad, h8, v', rfl, hR⟩ | ⟨hbad, rfl, hR⟩⟩
  · refine ⟨ho, _, v', _, false, rfl, ?_, hR, .inl ⟨hbad, h8, rfl, rfl, rfl⟩⟩
    have := beN_lt (ys.take 8) (fun b hb' => hb b (List.mem_of_mem_take hb'))
    rw [List.length_take, Nat.min_eq_left h8] at this
    exact this
  · exact ⟨ho, 0, _, _, true, rfl, by omega, hR, .inr ⟨hbad, rfl⟩⟩
/-- The block of an entry behind the copy of a digest. -/
def copE (xs : List Int) : Array Value := ((u8s xs).zipIdx 0).foldl (fun (cs : Array Value) (x : Value × Nat) => cs.setIfInBounds x.2 x.1) zE
theorem copE_size (xs : List Int) : (copE xs).size = 33 := by
  have key : ∀ (l : List (Value × Nat)) (cs : Array Value), (l.foldl (fun (cs : Array Value) (x : Value × Nat) => cs.setIfInBounds x.2 x.1) cs).size = cs.size := by
    intro l
    induction l with
    | nil => intro cs; rfl
    | cons x l ih => intro cs; rw [List.foldl_cons, ih, Array.size_setIfInBounds]
  unfold copE
  rw [key, zE_size]
theorem copE_set (xs : List Int) (t : Int) (h : xs.length = 32) : (copE xs).setIfInBounds 32 (.int .i64 t) = (entC xs t).toArray := build_ent xs t h zE zE_size
theorem RD.off {w w' : World} {r g : Nat} {v : Value} {xs : List Int} {bad : Bool} (h : RD w r v xs bad) (ho : Off g w w') (hr : r ≠ g) (hv : ∀ b, v.ownBlock = some b → b ≠ g) : RD w' r v xs bad := by
  refine ⟨ho.blk h.1 hr, ?_⟩
  obtain ⟨A, cap, rfl, hc, hl, hx⟩ := h.2
  refine ⟨A, cap, rfl, hc, hl, fun hp => ?_⟩
  obtain ⟨b, off, rfl, hcell⟩ := hx hp
  exact ⟨b, off, rfl, fun j u hj => ho.cell (hcell j u hj) (hv b rfl)⟩

set_option maxRecDepth 100000 in
set_option maxHeartbeats 2000000 in
theorem frame_parse_entry (s : List Int) (w : World) (hl : s.length = 64) (hb : Bys s) :
    Calls Tryz.prog 124 #[.agg (u8s s).toArray] w fun e w' => Below w.heap.size w w' ∧
      ((prsE s = none ∧ e = .returned (.tuple #[.int .u32 0, .agg zE, .bool false])) ∨ (∃ g q, prsE s = some (g, q) ∧ e = .returned (.tuple #[.int .u32 g, .agg (entP q).toArray, .bool true]))) := by
  have hul : (u8s s).length = 64 := by rw [u8s_length, hl]
  have HZ : Hid ((Tryz.prog.info? 35).map (·.size) = some zE.size ∧ zE.all (·.oneCell') = true) := Lib.hid ⟨by rw [zE_size]; kernel_rfl, zE_one⟩
  obtain ⟨wa, hwa⟩ : ∃ wa, wa = w.alloc (.cells (u8s s).toArray 144) := ⟨_, rfl⟩
  obtain ⟨gE, hgE⟩ : ∃ g, g = wa.heap.size := ⟨_, rfl⟩
  obtain ⟨w1, hw1⟩ : ∃ w1, w1 = wa.alloc (.cells zE 35) := ⟨_, rfl⟩
  have hB1 : Blk w1 w.heap.size 144 (u8s s).toArray := by rw [hw1, hwa]; exact (Blk.new _ _ _).alloc _
  have hr1 := hB1.range
  rw [List.toList_toArray] at hr1
  have HR1 := Lib.hid hr1
  have HBE : Hid (Blk w1 gE 35 zE) := Lib.hid (by rw [hw1, hgE]; exact Blk.new _ _ _)
  have HB1 : Hid (Below w.heap.size w w1) := Lib.hid (by rw [hw1, hwa]; exact ((Below.refl _ w).alloc (Nat.le_refl _) _).alloc (by simp) _)
  have HGE : Hid (w.heap.size ≤ gE) := Lib.hid (by rw [hgE, hwa]; simp)
  clear hB1 hr1
  go_enter Tryz.func124, Tryz.ntmps124
  go_upto_region 1 with (refine al 35 zE rfl rfl zeroE ?_)
  rw [← hwa, ← hw1, show w.heap.size + 1 = gE by rw [hgE, hwa]; simp]
  clear hwa hw1 hgE
  go_wp2_with (refine ld 144 _ rfl rfl rfl HR1.out Tryz.underlying144 rfl (by rw [hul]; kernel_rfl) ?_)
  refine (frame_parse s w1 hl hb).mono ?_
  rintro e w2 ⟨hb2, ⟨hn, rfl⟩ | ⟨g, p, v, hp, rfl, hs⟩⟩
  · have HE2 := Lib.hid (HBE.out.keep hb2)
    have HB2 : Hid (Below w.heap.size w w2) := Lib.hid (bstep HB1.out hb2)
    have HN : Hid (prsE s = none) := Lib.hid (by unfold prsE; rw [hn])
    clear hn hb2
    go_wp2_with (first
      | (refine bld 35 #[] rfl rfl rfl builtE ?_)
      | (refine stBlk 35 (.tmp 3) (.tmp 19) rfl rfl rfl rfl HE2.out HZ.out.1 rfl HZ.out.2 ?_; intro w3 hB3 hb3 _ _; have HB3 := Lib.hid hB3; have HE3 := Lib.hid hb3; clear hB3 hb3))
    have hr := HB3.out.range
    exact bodyPost_ret (results_cellR_mid rfl _ rfl hr Tryz.underlying35 rfl (by rw [Array.length_toList]; exact HZ.out.1)) rfl ⟨HB2.out.trans (HE3.out.mono HGE.out), .inl ⟨HN.out, rfl⟩⟩
  · obtain ⟨gT, hgT⟩ : ∃ g, g = w2.heap.size := ⟨_, rfl⟩
    obtain ⟨w3, hw3⟩ : ∃ w3, w3 = w2.alloc (.cells zE 35) := ⟨_, rfl⟩
    have HB3 : Hid (Below w.heap.size w w3) := Lib.hid (by rw [hw3]; exact (bstep HB1.out hb2).alloc (bstep HB1.out hb2).size _)
    have HE3 : Hid (Blk w3 gE 35 zE) := Lib.hid (by rw [hw3]; exact (HBE.out.keep hb2).alloc _)
    have HT3 : Hid (Blk w3 gT 35 zE) := Lib.hid (by rw [hw3, hgT]; exact Blk.new _ _ _)
    have HS3 : Hid (Sn w3 1 v p.length (u8s p)) := Lib.hid (by rw [hw3]; exact hs.alloc _)
    have hlt : gE < gT := by have h1 := HBE.out.lt; have h2 := hb2.size; omega
    have hTs : gT < w3.heap.size := HT3.out.lt
    have HP := Lib.hid hp
    have HPB := Lib.hid (prs_bys hb hp)
    have hpl : p.length ≤ 54 := prs_len hp
    clear hp hs hb2
    go_upto_region 5 with (refine al 35 zE rfl rfl zeroE ?_)
    rw [← hw3, ← hgT]
    clear hw3 hgT
    go_wp2_with fail
    refine (wire_newF _ p w3 HS3.out (by omega)).mono ?_
    rintro e w4 ⟨r, v4, rfl, hR4, hfr, hr4, hb4⟩
    have HB4 : Hid (Below w.heap.size w w4.drew) := Lib.hid (bstep HB3.out hb4).drew
    have HE4 : Hid (Blk w4.drew gE 35 zE) := Lib.hid (HE3.out.keep hb4.drew)
    have HT4 : Hid (Blk w4.drew gT 35 zE) := Lib.hid (HT3.out.keep hb4.drew)
    have HR4 : Hid (RD w4.drew r v4 p false) := Lib.hid hR4
    have HFR := Lib.hid hfr
    have hTr : gT < r := by omega
    have HSZ := Lib.hid hb4.size
    clear hR4 hfr hr4 hb4
    go_upto_region 6 with fail
    refine held_start 5 (fun _ => True) (by kernel_rfl) (by kernel_rfl) (trivial) (fun hHeld => ?_)
    refine hTake 0 (Op.fieldAddr 35 (Operand.tmp 8) 0) (some 22) (.pointer (some ⟨gT, 0, none⟩)) (by kernel_rfl) (by kernel_rfl) (by kernel_rfl) (by kernel_rfl) (by kernel_rfl) (fun _ _ _ h => h) (fun o ho wX hX => by unfold execOp; simp only [ho]; go_simp) hHeld ?_
    simp only [Act.put, List.setIfInBounds_toArray, List.set_cons_zero, List.set_cons_succ]
    refine hTake 1 (Op.slice 33 (Operand.tmp 22) none none none) (some 23) (.slice (some ⟨gT, 0, none⟩) 32 32) (by kernel_rfl) (by kernel_rfl) (by kernel_rfl) (by kernel_rfl) (by kernel_rfl) (fun _ _ _ h => h) (fun o ho wX hX => by unfold execOp; simp only [ho]; go_simp) hHeld ?_
    simp only [Act.put, List.setIfInBounds_toArray, List.set_cons_zero, List.set_cons_succ]
    refine hMove 2 (Operand.tmp 9) (some 24) (.pointer (some ⟨r, 0, none⟩)) (by kernel_rfl) (by kernel_rfl) (by kernel_rfl) (by kernel_rfl) (by kernel_rfl) (fun _ _ _ h => h) (by exact rfl) hHeld ?_
    simp only [Act.put, List.setIfInBounds_toArray, List.set_cons_zero, List.set_cons_succ]
    refine wpAnyH_ready (rs := [3]) (by kernel_rfl) (by simp) ?_
    refine rCall 3 (Op.call { callee := Callee.value (Operand.func 145), args := #[Operand.tmp 24, Operand.const (Value.int IntKind.i64 32)], argTypes := #[195, 3] }) (some 25) 145 (#[.pointer (some ⟨r, 0, none⟩), .int .i64 32]) (by kernel_rfl) (by kernel_rfl) (fun o ho => by unfold execOp; simp only [ho]; go_simp) ?_ AllReadyH.nil
    refine (rd_take32 r v4 p w4.drew HR4.out (by omega)).mono ?_
    rintro e w5 ⟨ho5, x, v5, xs, ys, bad, rfl, hxl, hsx, hR5, hob, hcs⟩
    have HB5 : Hid (Below w.heap.size w w5) := Lib.hid (HB4.out.trans (ho5.below (by have := HGE.out; omega) HB4.out.size))
    have HE5 : Hid (Blk w5 gE 35 zE) := Lib.hid (ho5.blk HE4.out (by omega))
    have HT5 : Hid (Blk w5 gT 35 zE) := Lib.hid (ho5.blk HT4.out (by omega))
    have HR5 := Lib.hid hR5
    have HOB := Lib.hid hob
    have HCS := Lib.hid hcs
    have HSX := Lib.hid hsx
    have HTH5 : Hid (w5.there gT 0 xs.length) := Lib.hid (there_blk HT5.out (by rw [zE_size]; omega))
    clear hR5 hob hcs hsx ho5
    refine ⟨_, rfl, trivial, fun hHeld => ?_⟩
    simp only [Act.put, List.setIfInBounds_toArray, List.set_cons_zero, List.set_cons_succ]
    refine wpAnyH_ready (rs := [4]) (by kernel_rfl) (by simp) ?_
    refine rCopy 4 (dT := 78) (sT := 78) (elem := 5) (.tmp 23) (.tmp 25) (some 26) (by kernel_rfl) (by kernel_rfl) (by exact rfl) (by exact rfl) Tryz.underlying78 (by kernel_rfl) HSX.out hxl HTH5.out (u8s_mem _) trivial ?_ AllReadyH.nil
    simp only [Act.put, List.setIfInBounds_toArray, List.set_cons_zero, List.set_cons_succ]
    refine wpAnyH_done (by kernel_rfl) ?_ _
    clear hHeld
    have HB6 : Hid (Below w.heap.size w (w5.setCells gT 0 (u8s xs))) := Lib.hid (HB5.out.trans (setCells_below (by have := HGE.out; omega) _ _ _).1)
    obtain ⟨w6, hw6⟩ : ∃ w6, w6 = w5.setCells gT 0 (u8s xs) := ⟨_, rfl⟩
    have HE6 : Hid (Blk w6 gE 35 zE) := Lib.hid (by rw [hw6]; exact (setCells_off gT _ 0 w5).blk HE5.out (by omega))
    have HT6 : Hid (Blk w6 gT 35 (copE xs)) := Lib.hid (by rw [hw6]; exact setCells_blk _ _ _ _ HT5.out)
    have HR6 : Hid (RD w6 r v5 ys bad) := Lib.hid (by rw [hw6]; exact HR5.out.off (setCells_off gT _ 0 w5) (by omega) (fun b e => by have := HFR.out b (HOB.out b e); omega))
    rw [← hw6] at HB6 ⊢
    have HYB : Hid (Bys ys) := Lib.hid (by
      rcases HCS.out with ⟨_, _, _, e⟩ | ⟨_, _, _, e⟩
      · rw [e]; exact fun b hb => HPB.out b (List.mem_of_mem_drop hb)
      · rw [e]; exact fun b hb => by cases hb)
    have hyl : ys.length ≤ 1000000 := by
      rcases HCS.out with ⟨_, _, _, e⟩ | ⟨_, _, _, e⟩
      · rw [e, List.length_drop]; omega
      · rw [e]; simp
    clear hw6
    go_wp2_with fail
    refine (rd_num8 r v5 ys bad w6 HR6.out HYB.out hyl).mono ?_
    rintro e w7 ⟨ho7, N, v7, zs, bad7, rfl, hN, hR7, hcs7⟩
    have HB7 : Hid (Below w.heap.size w w7) := Lib.hid (HB6.out.trans (ho7.below (by have := HGE.out; omega) HB6.out.size))
    have HE7 : Hid (Blk w7 gE 35 zE) := Lib.hid (ho7.blk HE6.out (by omega))
    have HT7 : Hid (Blk w7 gT 35 (copE xs)) := Lib.hid (ho7.blk HT6.out (by omega))
    have HR7 := Lib.hid hR7
    have HC7 := Lib.hid hcs7
    clear ho7 hR7 hcs7
    go_wp2_with fail
    refine (rd_Done r v7 zs bad7 w7 HR7.out).mono ?_
    rintro e w8 ⟨rfl, rfl⟩
    obtain ⟨D, hD⟩ : ∃ D, D = (!bad7 && decide (zs.length = 0)) := ⟨_, rfl⟩
    rw [← hD]
    have HD := Lib.hid hD
    clear hD
    have HDT : Hid (D = true → xs = p.take 32 ∧ p.length = 40 ∧ N = beN (p.drop 32)) := Lib.hid (fun e => by
      have h := HD.out
      rw [e] at h
      have h1 : bad7 = false := by
        revert h
        cases bad7
        · intro _; rfl
        · intro h; simp at h
      have h2 : zs.length = 0 := by rw [h1] at h; simpa using h.symm
      rcases HC7.out with ⟨hb0, h8, _, hNv, hz⟩ | ⟨_, hb1⟩
      · rcases HCS.out with ⟨_, h32, hxs, hys⟩ | ⟨hb1, _⟩
        · rw [hz, hys, List.length_drop, List.length_drop] at h2
          rw [hys, List.length_drop] at h8
          refine ⟨hxs, by omega, ?_⟩
          rw [hNv, hys, List.take_of_length_le (by rw [List.length_drop]; omega)]
        · rw [hb0] at hb1; cases hb1
      · rw [h1] at hb1; cases hb1)
    have HDF : Hid (D = false → prsE s = none) := Lib.hid (fun e => by
      unfold prsE
      rw [HP.out]
      simp only
      rw [if_neg]
      rintro ⟨h40, _⟩
      have h := HD.out
      rw [e] at h
      rcases HCS.out with ⟨hb0, h32, hxs, hys⟩ | ⟨_, h32, _⟩
      · rcases HC7.out with ⟨_, h8, hb7, hNv, hz⟩ | ⟨hb1, _⟩
        · rw [hb7, hz, hys, List.length_drop, List.length_drop, h40] at h
          simp at h
        · rw [hb0, hys, List.length_drop, h40] at hb1
          simp at hb1
      · omega)
    clear HD HC7 HCS
    cases D with
    | false =>
      go_wp2_with (first
        | (refine bld 35 #[] rfl rfl rfl builtE ?_)
        | (refine stBlk 35 (.tmp 3) (.tmp 36) rfl rfl rfl rfl HE7.out HZ.out.1 rfl HZ.out.2 ?_; intro w9 hB9 hb9 _ _; have HB9 := Lib.hid hB9; have HE9 := Lib.hid hb9; clear hB9 hb9))
      have hr := HB9.out.range
      exact bodyPost_ret (results_cellR_mid rfl _ rfl hr Tryz.underlying35 rfl (by rw [Array.length_toList]; exact HZ.out.1)) rfl ⟨HB7.out.trans (HE9.out.mono HGE.out), .inl ⟨HDF.out (by simp), rfl⟩⟩
    | true =>
      rcases Bool.eq_false_or_eq_true (decide ((4611686018427387904 : Int) < (N : Int))) with t1 | t1
      · have HNN : Hid (prsE s = none) := Lib.hid (by
          unfold prsE
          rw [HP.out]
          simp only
          rw [if_neg]
          rintro ⟨_, h⟩
          have := of_decide_eq_true t1
          have := (HDT.out rfl).2.2
          omega)
        go_wp2_with (first
          | (refine bld 35 #[] rfl rfl rfl builtE ?_)
          | (refine stBlk 35 (.tmp 3) (.tmp 36) rfl rfl rfl rfl HE7.out HZ.out.1 rfl HZ.out.2 ?_; intro w9 hB9 hb9 _ _; have HB9 := Lib.hid hB9; have HE9 := Lib.hid hb9; clear hB9 hb9))
        have hr := HB9.out.range
        exact bodyPost_ret (results_cellR_mid rfl _ rfl hr Tryz.underlying35 rfl (by rw [Array.length_toList]; exact HZ.out.1)) rfl ⟨HB7.out.trans (HE9.out.mono HGE.out), .inl ⟨HNN.out, rfl⟩⟩
      · have hN62 : (N : Int) ≤ 4611686018427387904 := by have := of_decide_eq_false t1; omega
        have hN0 : (0 : Int) ≤ N := by omega
        have hcv : IntKind.i64.wrap (N : Int) = (N : Int) := IntWalk.i64_in _ (by omega)
        have HXL : Hid (xs.length = 32) := Lib.hid (by have := HDT.out rfl; rw [this.1, List.length_take]; omega)
        have HPE : Hid (prsE s = some (g, (xs, (N : Int)))) := Lib.hid (by
          have h := HDT.out rfl
          unfold prsE
          rw [HP.out]
          simp only
          rw [if_pos ⟨h.2.1, by rw [← h.2.2]; omega⟩, ← h.1, ← h.2.2])
        have hc32 : w7.cell? ⟨gT, 32, none⟩ = some ((copE xs)[32]'(by rw [copE_size]; omega)) := by rw [HT7.out.cell 32]; exact Array.getElem?_eq_getElem _
        have hf32 := HT7.out.frozen 32
        clear HDF
        go_upto_region 11 with fail
        have HB8 : Hid (Below w.heap.size w (w7.setCell ⟨gT, 32, none⟩ (.int .i64 (N : Int))).drew) := Lib.hid ((HB7.out.trans ((Off.refl gT w7).set 32 _ |>.below (by have := HGE.out; omega) HB7.out.size)).drew)
        have HE8 : Hid (Blk (w7.setCell ⟨gT, 32, none⟩ (.int .i64 (N : Int))).drew gE 35 zE) := Lib.hid (((Off.refl gT w7).set 32 _).blk HE7.out (by omega))
        have HT8 : Hid (Blk (w7.setCell ⟨gT, 32, none⟩ (.int .i64 (N : Int))).drew gT 35 (entC xs N).toArray) := Lib.hid (by have := HT7.out.set_ 32 (.int .i64 (N : Int)); rw [copE_set _ _ HXL.out] at this; exact this)
        obtain ⟨w8, hw8⟩ : ∃ w8, w8 = w7.setCell ⟨gT, 32, none⟩ (.int .i64 (N : Int)) := ⟨_, rfl⟩
        rw [← hw8] at HB8 HE8 HT8 ⊢
        have hEL : (entC xs (N : Int)).length = 33 := by simp [entC, u8s_length, HXL.out]
        have HEL : Hid ((Tryz.prog.info? 35).map (·.size) = some (entC xs (N : Int)).length) := Lib.hid (by rw [hEL]; kernel_rfl)
        have HE1 : Hid (∀ u ∈ entC xs (N : Int), u.oneCell' = true) := Lib.hid (fun u hu => by
          simp only [entC, List.mem_append, List.mem_singleton] at hu
          rcases hu with hu | rfl
          · exact u8s_mem _ u hu
          · rfl)
        have HTR : Hid (w8.drew.rangeAt gT 0 (entC xs (N : Int))) := Lib.hid (by have := HT8.out.range; rw [List.toList_toArray] at this; exact this)
        have HTH : Hid (w8.drew.there gE 0 (entC xs (N : Int)).length) := Lib.hid (there_blk HE8.out (by rw [hEL, zE_size]; exact Nat.le_refl _))
        have HTR2 : Hid ((w8.drew.setCells gE 0 (entC xs (N : Int))).rangeAt gT 0 (entC xs (N : Int))) := Lib.hid (fun i u hi => (World.cell?_of_block (a := ⟨gT, 0 + i, none⟩) (setCells_other (show gT ≠ gE by omega) _ _ _)).trans (HTR.out i u hi))
        clear hw8 hc32 hf32 hEL
        refine held_start 5 (fun w' => w'.rangeAt gT 0 (entC xs (N : Int))) (by kernel_rfl) (by kernel_rfl) (HTR.out) (fun hHeld => ?_)
        refine hMove 0 (Operand.tmp 5) (some 40) (.int .u32 g) (by kernel_rfl) (by kernel_rfl) (by kernel_rfl) (by kernel_rfl) (by kernel_rfl) (fun _ _ _ h => h) (by exact rfl) hHeld ?_
        simp only [Act.put, List.setIfInBounds_toArray, List.set_cons_zero, List.set_cons_succ]
        refine hLoad 1 35 (Operand.tmp 8) (some 41) (cs := entC xs (N : Int)) (by kernel_rfl) (by kernel_rfl) (by kernel_rfl) (by kernel_rfl) (by kernel_rfl) (fun _ _ _ h => h) (by exact rfl) (fun _ hX => hX) Tryz.underlying35 rfl HEL.out hHeld ?_
        simp only [Act.put, List.setIfInBounds_toArray, List.set_cons_zero, List.set_cons_succ]
        refine hTake 2 (Op.assign (Operand.tmp 40)) (some 2) (.int .u32 g) (by kernel_rfl) (by kernel_rfl) (by kernel_rfl) (by kernel_rfl) (by kernel_rfl) (fun _ _ _ h => h) (fun o ho wX hX => by unfold execOp; simp only [ho]; go_simp) hHeld ?_
        simp only [Act.put, List.setIfInBounds_toArray, List.set_cons_zero, List.set_cons_succ]
        refine wpAnyH_ready (rs := [3]) (by kernel_rfl) (by simp) ?_
        refine rStoreS 3 35 (.tmp 3) (.tmp 41) none (cs := entC xs (N : Int)) (by kernel_rfl) (by kernel_rfl) (by exact rfl) (by exact rfl) HTH.out HEL.out HE1.out HTR2.out ?_ AllReadyH.nil
        simp only [Act.put, List.setIfInBounds_toArray, List.set_cons_zero, List.set_cons_succ]
        replace hHeld := HTR2.out
        refine hTake 4 (Op.assign (Operand.const (Value.bool true))) (some 4) (.bool true) (by kernel_rfl) (by kernel_rfl) (by kernel_rfl) (by kernel_rfl) (by kernel_rfl) (fun _ _ _ h => h) (fun o ho wX hX => by unfold execOp; simp only [ho]; go_simp) hHeld ?_
        simp only [Act.put, List.setIfInBounds_toArray, List.set_cons_zero, List.set_cons_succ]
        refine wpAnyH_done (by kernel_rfl) ?_ _
        clear hHeld
        have hrr := World.rangeAt_setCells_same w8.drew gE 0 (entC xs (N : Int)) HTH.out
        have HBF : Hid (Below w.heap.size w (w8.drew.setCells gE 0 (entC xs (N : Int)))) := Lib.hid (HB8.out.trans (setCells_below HGE.out _ _ _).1)
        obtain ⟨w9, hw9⟩ : ∃ w9, w9 = w8.drew.setCells gE 0 (entC xs (N : Int)) := ⟨_, rfl⟩
        rw [← hw9] at hrr HBF ⊢
        clear hw9
        have HRR := Lib.hid hrr
        clear hrr
        go_wp2_with fail
        exact bodyPost_ret (results_cellR_mid rfl _ rfl HRR.out Tryz.underlying35 rfl HEL.out) rfl ⟨HBF.out, .inr ⟨g, _, HPE.out, rfl⟩⟩
end Go.Proofs.YtombncedfleljaaGreat
namespace Go.Proofs.YtombncedfleljaaGreat
open Go.RowKit
attribute [local irreducible] wpQuiet wpAnyH
set_option linter.unusedSimpArgs false

/-- A write and, if it is done, a sync. -/
def wsD (d : DiskD) (a : Int) (s : List Int) : DiskD := match writeA d a with | some _ => writeD d a s | none => syncS (writeD d a s)
def wsA (d : DiskD) (a : Int) (s : List Int) : Ans := match writeA d a with | some x => some x | none => syncA (writeD d a s)
theorem stepped_room {d : DiskD} (h : d.steps ≤ d.room) : (stepped d).room ≤ d.room + 1 := by show max d.room (d.steps + 1) ≤ d.room + 1; omega
theorem writeD_room {d : DiskD} (h : d.steps ≤ d.room) (a : Int) (s : List Int) : (writeD d a s).room ≤ d.room + 2 := by
  have h1 := stepped_room h
  have h2 := addIf_room (stepped d) a s
  unfold writeD
  split
  · omega
  · split
    · show (addIf (stepped d) a s).room ≤ _; omega
    · split <;> omega
theorem rec_bys (g : Nat) (p : List Int) (hb : Bys p) : Bys (rec g p) := fun b h => by
  unfold rec at h
  rcases List.mem_append.1 h with h | h
  · exact body_bys hb b (List.mem_of_mem_take h)
  · rcases List.mem_append.1 h with h | h
    · exact beB_bys _ _ b h
    · exact beB_bys _ _ b h
theorem neq_nil (t : TypeId) (u : Value) (w : World) : (binOp .neq 42 (.iface t u) .nilIface).run Tryz.prog w = .ok (.bool true) w := by kernel_rfl

set_option maxRecDepth 100000 in
set_option maxHeartbeats 2000000 in
theorem slot_commit (f z : Int) (g : Nat) (w : World) (m : DiskM) (d : DiskD) (h : DK w m d) (hf : isI64 f) (hg : g < 4294967296) (hr : d.room + 3 ≤ 100000) :
    Calls Tryz.prog 58 #[.pointer (some ⟨m.g, 0, none⟩), .agg #[.int .i64 f, .int .i64 z], .int .u32 g] w fun e w' => e = .returned (valE (wsA d f (rec g toll))) ∧ ∃ m', DK w' m' (wsD d f (rec g toll)) ∧ DT w m w' m' := by
  have hB0 : Below w.heap.size w (w.alloc (.cells #[.int .i64 f, .int .i64 z] 106)) := (Below.refl _ w).alloc (Nat.le_refl _) _
  obtain ⟨w1, hw1⟩ : ∃ w1, w1 = w.alloc (.cells #[.int .i64 f, .int .i64 z] 106) := ⟨_, rfl⟩
  have HK1 : Hid (DK w1.drew m d) := Lib.hid (by rw [hw1]; exact (h.keep hB0).drew)
  have HB1 : Hid (Below w.heap.size w w1.drew) := Lib.hid (by rw [hw1]; exact hB0.drew)
  have HC1 : Hid (w1.drew.cell? ⟨w.heap.size, 0, none⟩ = some (.int .i64 f)) := Lib.hid (by rw [hw1]; exact (Blk.new w _ #[.int .i64 f, .int .i64 z]).cell 0)
  have HNF := Lib.hid (h.notFoot (Nat.le_refl w.heap.size))
  have HSR : Hid (Sec (rec g toll)) := Lib.hid ⟨rec_length g toll (by decide), rec_bys g toll toll_bys⟩
  have hst := h.ok.st
  clear h hB0
  go_enter Tryz.func58, Tryz.ntmps58
  go_upto_region 1 with fail
  rw [← hw1]
  clear hw1
  refine held_start 7 (fun w' => w'.cell? ⟨w.heap.size, 0, none⟩ = some (.int .i64 f)) (by kernel_rfl) (by kernel_rfl) (HC1.out) (fun hHeld => ?_)
  refine hMove 0 (Operand.tmp 0) (some 8) (.pointer (some ⟨m.g, 0, none⟩)) (by kernel_rfl) (by kernel_rfl) (by kernel_rfl) (by kernel_rfl) (by kernel_rfl) (fun _ _ _ h => h) (by exact rfl) hHeld ?_
  simp only [Act.put, List.setIfInBounds_toArray, List.set_cons_zero, List.set_cons_succ]
  refine hTake 1 (Op.fieldAddr 106 (Operand.tmp 4) 0) (some 9) (.pointer (some ⟨w.heap.size, 0, none⟩)) (by kernel_rfl) (by kernel_rfl) (by kernel_rfl) (by kernel_rfl) (by kernel_rfl) (fun _ _ _ h => h) (fun o ho wX hX => by unfold execOp; simp only [ho]; go_simp) hHeld ?_
  simp only [Act.put, List.setIfInBounds_toArray, List.set_cons_zero, List.set_cons_succ]
  refine hTake 2 (Op.load 3 (Operand.tmp 9)) (some 10) (.int .i64 f) (by kernel_rfl) (by kernel_rfl) (by kernel_rfl) (by kernel_rfl) (by kernel_rfl) (fun _ _ _ h => h) (fun o ho wX hX => by unfold execOp; simp only [ho]; go_simp) hHeld ?_
  simp only [Act.put, List.setIfInBounds_toArray, List.set_cons_zero, List.set_cons_succ]
  refine hMove 3 (Operand.tmp 2) (some 11) (.int .u32 g) (by kernel_rfl) (by kernel_rfl) (by kernel_rfl) (by kernel_rfl) (by kernel_rfl) (fun _ _ _ h => h) (by exact rfl) hHeld ?_
  simp only [Act.put, List.setIfInBounds_toArray, List.set_cons_zero, List.set_cons_succ]
  refine wpAnyH_ready (rs := [4]) (by kernel_rfl) (by simp) ?_
  refine rCall 4 (Op.call { callee := Callee.value (Operand.func 82), args := #[Operand.tmp 11], argTypes := #[59] }) (some 12) 82 (#[.int .u32 g]) (by kernel_rfl) (by kernel_rfl) (fun o ho => by unfold execOp; simp only [ho]; go_simp) ?_ AllReadyH.nil
  refine (frame_header g w1.drew hg).mono ?_
  rintro e w2 ⟨rfl, hb2⟩
  have HK2 := Lib.hid (HK1.out.keep hb2)
  have HB2 : Hid (Below w.heap.size w w2) := Lib.hid (bstep HB1.out hb2)
  refine ⟨_, rfl, Below.cell' hb2 hHeld, fun hHeld => ?_⟩
  simp only [Act.put, List.setIfInBounds_toArray, List.set_cons_zero, List.set_cons_succ]
  refine wpAnyH_ready (rs := [5]) (by kernel_rfl) (by simp) ?_
  refine rCall 5 (Op.call { callee := Callee.value (Operand.func 81), args := #[Operand.tmp 8, Operand.tmp 10, Operand.tmp 12], argTypes := #[25, 3, 144] }) (some 13) 81 (#[.pointer (some ⟨m.g, 0, none⟩), .int .i64 f, .agg (u8s (rec g toll)).toArray]) (by kernel_rfl) (by kernel_rfl) (fun o ho => by unfold execOp; simp only [ho]; go_simp) ?_ AllReadyH.nil
  refine (disk_write f (rec g toll) w2 m d HK2.out hf HSR.out (by omega)).mono ?_
  rintro e w3 ⟨rfl, m3, hdk, hdt⟩
  rw [writeE_val]
  refine ⟨_, rfl, hdt.fo.cell hHeld HNF.out, fun hHeld => ?_⟩
  simp only [Act.put, List.setIfInBounds_toArray, List.set_cons_zero, List.set_cons_succ]
  refine hTake 6 (Op.assign (Operand.tmp 13)) (some 7) (valE (writeA d f)) (by kernel_rfl) (by kernel_rfl) (by kernel_rfl) (by kernel_rfl) (by kernel_rfl) (fun _ _ _ h => h) (fun o ho wX hX => by unfold execOp; simp only [ho]; go_simp) hHeld ?_
  simp only [Act.put, List.setIfInBounds_toArray, List.set_cons_zero, List.set_cons_succ]
  refine wpAnyH_done (by kernel_rfl) ?_ _
  clear hHeld
  have HDT : Hid (DT w m w3 m3) := Lib.hid ((DT.of_below HB2.out).trans hdt)
  have HDK := Lib.hid hdk
  have HRM : Hid ((writeD d f (rec g toll)).room ≤ d.room + 2) := Lib.hid (writeD_room hst f _)
  clear hdk hdt
  have hg3 : m3.g = m.g := HDT.out.g
  cases ha : writeA d f with
  | some x =>
    have HF : Hid (wsA d f (rec g toll) = some x ∧ wsD d f (rec g toll) = writeD d f (rec g toll)) := Lib.hid (by unfold wsA wsD; rw [ha]; exact ⟨rfl, rfl⟩)
    obtain ⟨t, u, hv⟩ := valE_form x
    rw [hv]
    have HV := Lib.hid hv
    have hne := neq_nil t u
    clear ha hv
    go_wp2_with fail
    go_ret
    exact ⟨by rw [HF.out.1, HV.out]; rfl, m3, by rw [HF.out.2]; exact HDK.out, HDT.out⟩
  | none =>
    have HF : Hid (wsA d f (rec g toll) = syncA (writeD d f (rec g toll)) ∧ wsD d f (rec g toll) = syncS (writeD d f (rec g toll))) := Lib.hid (by unfold wsA wsD; rw [ha]; exact ⟨rfl, rfl⟩)
    have hv : valE none = .nilIface := rfl
    rw [hv]
    clear ha
    go_wp2_with fail
    rw [← hg3]
    refine (disk_sync w3 m3 _ HDK.out (by have := HRM.out; omega)).mono ?_
    rintro e w4 ⟨rfl, m4, hdk4, hdt4⟩
    have HD4 := Lib.hid hdk4
    have HT4 : Hid (DT w m w4 m4) := Lib.hid (HDT.out.trans hdt4)
    clear hdk4 hdt4
    go_wp2_with fail
    go_ret
    exact ⟨by rw [HF.out.1, ← syncE_val]; rfl, m4, by rw [HF.out.2]; exact HD4.out, HT4.out⟩
end Go.Proofs.YtombncedfleljaaGreat
namespace Go.Proofs.YtombncedfleljaaGreat
open Go.RowKit
attribute [local irreducible] wpQuiet wpAnyH
set_option linter.unusedSimpArgs false

def putD (d : DiskD) (f z p : Int) (g : Nat) (q : List Int × Int) : DiskD := if p < 1 then d else if room z < p then d else if rightE q then wsD d (f + p) (entRec g q) else d
def putA (d : DiskD) (f z p : Int) (g : Nat) (q : List Int × Int) : Ans := if p < 1 then some (13, none) else if room z < p then some (13, none) else if rightE q then wsA d (f + p) (entRec g q) else some (15, none)
theorem entRec_sec (g : Nat) {q : List Int × Int} (hq : EntOk q) : Sec (entRec g q) := by
  have hl : (q.1 ++ beB 8 q.2.toNat).length = 40 := by rw [List.length_append, beB_length, hq.dig.len]
  refine ⟨rec_length g _ (by rw [hl]; omega), rec_bys g _ fun b hb => ?_⟩
  rcases List.mem_append.1 hb with hb | hb
  · exact hq.dig.byte b hb
  · exact beB_bys _ _ b hb
theorem pick_sec (g : Nat) {q : List Int × Int} (hq : EntOk q) : Sec (if rightE q then entRec g q else zsec) := by
  split
  · exact entRec_sec g hq
  · exact zsec_sec

set_option maxRecDepth 100000 in
set_option maxHeartbeats 2000000 in
theorem slot_put (f z p : Int) (g : Nat) (q : List Int × Int) (w : World) (m : DiskM) (d : DiskD) (h : DK w m d) (hf : 0 ≤ f ∧ f ≤ 100000) (hz : isI64 z ∧ z ≤ 100000) (hp : isI64 p) (hg : g < 4294967296) (hq : EntOk q) (hr : d.room + 3 ≤ 100000) :
    Calls Tryz.prog 55 #[.pointer (some ⟨m.g, 0, none⟩), .agg #[.int .i64 f, .int .i64 z], .int .i64 p, .int .u32 g, .agg (entP q).toArray] w fun e w' => e = .returned (valE (putA d f z p g q)) ∧ ∃ m', DK w' m' (putD d f z p g q) ∧ DT w m w' m' := by
  have hB0 : Below w.heap.size w ((w.alloc (.cells #[.int .i64 f, .int .i64 z] 106)).alloc (.cells (entP q).toArray 35)) := ((Below.refl _ w).alloc (Nat.le_refl _) _).alloc (by simp) _
  obtain ⟨w1, hw1⟩ : ∃ w1, w1 = (w.alloc (.cells #[.int .i64 f, .int .i64 z] 106)).alloc (.cells (entP q).toArray 35) := ⟨_, rfl⟩
  have HK1 : Hid (DK w1 m d) := Lib.hid (by rw [hw1]; exact h.keep hB0)
  have HB1 : Hid (Below w.heap.size w w1) := Lib.hid (by rw [hw1]; exact hB0)
  have HX1 : Hid (Blk w1 w.heap.size 106 #[.int .i64 f, .int .i64 z]) := Lib.hid (by rw [hw1]; exact (Blk.new w _ _).alloc _)
  have HR1 : Hid (w1.rangeAt w.heap.size 0 [.int .i64 f, .int .i64 z]) := Lib.hid (by have := HX1.out.range; exact this)
  have HE1 : Hid (Blk w1 (w.heap.size + 1) 35 (entP q).toArray) := Lib.hid (by rw [hw1]; exact Blk.newAt _ _ _ _ (by simp))
  have HNF := Lib.hid (h.notFoot (Nat.le_refl w.heap.size))
  have HSR : Hid (Sec (entRec g q)) := Lib.hid (entRec_sec g hq)
  have HSP := Lib.hid (pick_sec g hq)
  have HEL : Hid ((Tryz.prog.info? 35).map (·.size) = some (entP q).length) := Lib.hid (by rw [entP_length q hq]; kernel_rfl)
  have HPZ : Hid ((Tryz.prog.info? 144).map (·.size) = some (u8s (if rightE q then entRec g q else zsec)).toArray.size ∧ z64.size = (u8s (if rightE q then entRec g q else zsec)).toArray.size) := Lib.hid ⟨by rw [List.size_toArray, sec_length HSP.out]; kernel_rfl, by rw [z64_size, List.size_toArray, sec_length HSP.out]⟩
  have hst := h.ok.st
  have hf1 : 0 ≤ f := hf.1
  have hf2 : f ≤ 100000 := hf.2
  have hp1 : -9223372036854775808 ≤ p := hp.1
  have hp2 : p ≤ 9223372036854775807 := hp.2
  have hrz : room z ≤ 100000 := by unfold room; split <;> omega
  clear h hB0 hf hp
  rcases Bool.eq_false_or_eq_true (decide (p < 1)) with t1 | t1
  · have HF : Hid (putA d f z p g q = some (13, none) ∧ putD d f z p g q = d) := Lib.hid (by unfold putA putD; rw [if_pos (of_decide_eq_true t1), if_pos (of_decide_eq_true t1)]; exact ⟨rfl, rfl⟩)
    go_enter Tryz.func55, Tryz.ntmps55
    go_upto_region 1 with fail
    rw [← hw1]
    clear hw1
    go_wp2_with fail
    go_ret
    exact ⟨by rw [HF.out.1]; rfl, m, by rw [HF.out.2]; exact HK1.out, DT.of_below HB1.out⟩
  · have hp0 : ¬ p < 1 := of_decide_eq_false t1
    go_enter Tryz.func55, Tryz.ntmps55
    go_upto_region 1 with fail
    rw [← hw1]
    clear hw1
    go_wp2_with (refine ld 106 _ rfl rfl rfl HR1.out Tryz.underlying106 rfl (by kernel_rfl) ?_)
    refine (slot_room f z w1 hz.1).mono ?_
    rintro e w2 ⟨rfl, hb2⟩
    have HB2 : Hid (Below w.heap.size w w2) := Lib.hid (bstep HB1.out hb2)
    have HX2 : Hid (Blk w2 w.heap.size 106 #[.int .i64 f, .int .i64 z]) := Lib.hid (HX1.out.keep hb2)
    have HE2 : Hid (w2.rangeAt (w.heap.size + 1) 0 (entP q)) := Lib.hid (by have := (HE1.out.keep hb2).range; rw [List.toList_toArray] at this; exact this)
    have HK2 := Lib.hid (HK1.out.keep hb2)
    obtain ⟨R, hR⟩ : ∃ R, R = room z := ⟨_, rfl⟩
    have HRR := Lib.hid hR
    rw [← hR] at hrz ⊢
    clear hb2 hR
    rcases Bool.eq_false_or_eq_true (decide (R < p)) with t2 | t2
    · have HF : Hid (putA d f z p g q = some (13, none) ∧ putD d f z p g q = d) := Lib.hid (by unfold putA putD; rw [if_neg (show ¬ p < 1 by omega), if_neg (show ¬ p < 1 by omega), ← HRR.out, if_pos (of_decide_eq_true t2), if_pos (of_decide_eq_true t2)]; exact ⟨rfl, rfl⟩)
      clear hp0
      go_wp2_with fail
      go_ret
      exact ⟨by rw [HF.out.1]; rfl, m, by rw [HF.out.2]; exact HK2.out, DT.of_below HB2.out⟩
    · have hp3 : p ≤ R := by have := of_decide_eq_false t2; omega
      have HF0 : Hid (putA d f z p g q = (if rightE q then wsA d (f + p) (entRec g q) else some (15, none)) ∧ putD d f z p g q = (if rightE q then wsD d (f + p) (entRec g q) else d)) := Lib.hid (by unfold putA putD; rw [if_neg (show ¬ p < 1 by omega), if_neg (show ¬ p < 1 by omega), ← HRR.out, if_neg (of_decide_eq_false t2), if_neg (of_decide_eq_false t2)]; exact ⟨rfl, rfl⟩)
      have hp4 : 1 ≤ p := by omega
      clear hp0 HRR
      go_wp2_with (refine ld 35 _ rfl rfl rfl HE2.out Tryz.underlying35 rfl HEL.out ?_)
      refine (frame_entry g q w2 hq hg).mono ?_
      rintro e w3 ⟨rfl, hb3⟩
      have HB3 : Hid (Below w.heap.size w w3) := Lib.hid (bstep HB2.out hb3)
      have HX3 : Hid (Blk w3 w.heap.size 106 #[.int .i64 f, .int .i64 z]) := Lib.hid (HX2.out.keep hb3)
      have HK3 := Lib.hid (HK2.out.keep hb3)
      have hlt3 : w.heap.size < w3.heap.size := HX3.out.lt
      clear hb3
      obtain ⟨S, hS⟩ : ∃ S, S = (if rightE q then entRec g q else zsec) := ⟨_, rfl⟩
      rw [← hS] at HPZ HSP ⊢
      have HS1 := Lib.hid (u8s_one S)
      cases hrq : rightE q with
      | false =>
        have HF : Hid (putA d f z p g q = some (15, none) ∧ putD d f z p g q = d) := Lib.hid (by rw [HF0.out.1, HF0.out.2, hrq]; exact ⟨rfl, rfl⟩)
        clear hrq hS HF0
        go_wp2_with (first
          | (refine al 144 z64 rfl rfl zero64 ?_)
          | (refine stNew 144 (.tmp 11) (.tmp 27) rfl rfl rfl rfl HPZ.out.1 HPZ.out.2 HS1.out ?_; intro w4 hK hb4 hz4; have HB4 := Lib.hid hb4; clear hK hb4 hz4))
        go_ret
        exact ⟨by rw [HF.out.1]; rfl, m, by rw [HF.out.2]; exact HK3.out.keep HB4.out, DT.of_below (HB3.out.trans (HB4.out.mono HB3.out.size))⟩
      | true =>
        rw [hrq] at hS HF0
        replace hS : S = entRec g q := hS
        replace HF0 : Hid (putA d f z p g q = wsA d (f + p) (entRec g q) ∧ putD d f z p g q = wsD d (f + p) (entRec g q)) := HF0
        rw [← hS] at HF0
        clear hrq hS
        have hcb : ∀ w4, Below w3.heap.size w3 w4 → w4.cell? ⟨w.heap.size, 0, none⟩ = some (.int .i64 f) := fun w4 hb => (HX3.out.keep hb).cell 0
        have HCB := Lib.hid hcb
        have HUS : Hid ((Tryz.prog.info? 144).map (·.size) = some (u8s S).length) := Lib.hid (by rw [sec_length HSP.out]; kernel_rfl)
        clear hcb
        go_wp2_with (first
          | (refine al 144 z64 rfl rfl zero64 ?_)
          | (refine stNew 144 (.tmp 11) (.tmp 27) rfl rfl rfl rfl HPZ.out.1 HPZ.out.2 HS1.out ?_; intro w4 hK hb4 hz4; have HB4 := Lib.hid hb4; have HR4 : Hid (w4.rangeAt w3.heap.size 0 (u8s S)) := Lib.hid (by have := Blk.range (show Blk w4 w3.heap.size 144 (u8s S).toArray from hK); rw [List.toList_toArray] at this; exact this); have hc4 := HCB.out w4 hb4; clear hK hb4 hz4)
          | (refine ld 144 _ rfl rfl rfl HR4.out Tryz.underlying144 rfl HUS.out ?_))
        have HK4 := Lib.hid (HK3.out.keep HB4.out)
        have HB40 : Hid (Below w.heap.size w w4) := Lib.hid (HB3.out.trans (HB4.out.mono HB3.out.size))
        refine (disk_write (f + p) S w4 m d HK4.out ⟨by omega, by omega⟩ HSP.out (by omega)).mono ?_
        rintro e w5 ⟨rfl, m5, hdk, hdt⟩
        rw [writeE_val]
        have HDT : Hid (DT w m w5 m5) := Lib.hid ((DT.of_below HB40.out).trans hdt)
        have HDK := Lib.hid hdk
        have HRM : Hid ((writeD d (f + p) S).room ≤ d.room + 2) := Lib.hid (writeD_room hst (f + p) _)
        clear hdk hdt hc4
        have hg3 : m5.g = m.g := HDT.out.g
        cases ha : writeA d (f + p) with
        | some x =>
          have HF : Hid (putA d f z p g q = some x ∧ putD d f z p g q = writeD d (f + p) S) := Lib.hid (by rw [HF0.out.1, HF0.out.2]; unfold wsA wsD; rw [ha]; exact ⟨rfl, rfl⟩)
          obtain ⟨t, u, hv⟩ := valE_form x
          rw [hv]
          have HV := Lib.hid hv
          have hne := neq_nil t u
          clear ha hv
          go_wp2_with fail
          go_ret
          exact ⟨by rw [HF.out.1, HV.out]; rfl, m5, by rw [HF.out.2]; exact HDK.out, HDT.out⟩
        | none =>
          have HF : Hid (putA d f z p g q = syncA (writeD d (f + p) S) ∧ putD d f z p g q = syncS (writeD d (f + p) S)) := Lib.hid (by rw [HF0.out.1, HF0.out.2]; unfold wsA wsD; rw [ha]; exact ⟨rfl, rfl⟩)
          have hv : valE none = .nilIface := rfl
          rw [hv]
          clear ha
          go_wp2_with fail
          rw [← hg3]
          refine (disk_sync w5 m5 _ HDK.out (by have := HRM.out; omega)).mono ?_
          rintro e w6 ⟨rfl, m6, hdk4, hdt4⟩
          have HD4 := Lib.hid hdk4
          have HT4 : Hid (DT w m w6 m6) := Lib.hid (HDT.out.trans hdt4)
          clear hdk4 hdt4
          go_wp2_with fail
          go_ret
          exact ⟨by rw [HF.out.1, ← syncE_val]; rfl, m6, by rw [HF.out.2]; exact HD4.out, HT4.out⟩
end Go.Proofs.YtombncedfleljaaGreat
namespace Go.Proofs.YtombncedfleljaaGreat
open Go.RowKit
attribute [local irreducible] wpQuiet wpAnyH
set_option linter.unusedSimpArgs false

theorem setCells_partM {w : World} {g : Nat} {t : TypeId} (pre mid post new : List Value) (hB : Blk w g t (pre ++ mid ++ post).toArray) (hl : mid.length = new.length) :
    Blk (w.setCells g pre.length new) g t (pre ++ new ++ post).toArray ∧ Off g w (w.setCells g pre.length new) ∧ (w.setCells g pre.length new).heap.size = w.heap.size := by
  have h1 := setCells_blk new pre.length w _ hB
  rw [part_eqM pre mid post new hl] at h1
  have h2 := (setCells_below (Nat.le_refl g) new pre.length w)
  exact ⟨h1, ⟨h2.1.os, h2.1.tape, h2.1.output, by omega, fun k _ hk => setCells_other hk new pre.length w⟩, h2.2⟩
theorem stPartM {P : Program} {ops : Array Oper} {rest : List Oper} {o : Oper} {a : Act} {w : World} {Q : Exit → Act → World → Prop} (ty : TypeId) (x y : Operand) (ho : o.op = .store ty x y) (hw : Region.wanted o (yielded ops a.tmps) = true)
    {g t : Nat} (pre mid post new : List Value) (hx : a.eval x = .pointer (some ⟨g, pre.length, none⟩)) (hy : a.eval y = .agg new.toArray) (hB : Blk w g t (pre ++ mid ++ post).toArray)
    (hi : (P.info? ty).map (·.size) = some new.length) (hl : mid.length = new.length) (h1 : ∀ u ∈ new, u.oneCell' = true)
    (h : ∀ w2, Blk w2 g t (pre ++ new ++ post).toArray → Off g w w2 → w2.heap.size = w.heap.size → wpList P ops Q rest (a.put o.dst undef) w2) :
    wpList P ops Q (o :: rest) a w :=
  wpList_step fun K hK => by
    rw [if_pos hw]
    refine wp_store_mid ty x y ho g pre.length new.toArray hx hy (there_blk hB (by simp; omega)) (by simpa using hi) (all_oneCell_toArray h1) ?_
    rw [List.toList_toArray]
    obtain ⟨h2, h3, h4⟩ := setCells_partM pre mid post new hB hl
    exact hK _ _ (h _ h2 h3 h4)

/-- Writes in a row, up to the first that is not done, and a sync. -/
def fillW : DiskD → Int → List (List Int) → Ans × DiskD
  | d, _, [] => (syncA d, syncS d)
  | d, a, s :: r => match writeA d a with | some x => (some x, writeD d a s) | none => fillW (writeD d a s) (a + 1) r
def fillR (d : DiskD) (f z : Int) (g : Nat) (l : List (List Int × Int)) : Ans × DiskD :=
  if room z < l.length then (some (13, none), d) else if l.all rightE then fillW d (f + 1) (l.map (entRec g)) else (some (15, none), d)
/-- The records behind k rounds. -/
def recsAt (g : Nat) (l : List (List Int × Int)) (k : Nat) : List Value := ((l.take k).map (entRec g) ++ List.replicate (l.length - k) zsec).flatMap u8s
theorem recsAt_zero (g : Nat) (l : List (List Int × Int)) : recsAt g l 0 = (List.replicate l.length zsec).flatMap u8s := by simp [recsAt]
theorem recsAt_all (g : Nat) (l : List (List Int × Int)) : recsAt g l l.length = (l.map (entRec g)).flatMap u8s := by simp [recsAt]
theorem flat64 (L : List (List Int)) (h : ∀ s ∈ L, Sec s) : (L.flatMap u8s).length = L.length * 64 := by
  induction L with
  | nil => rfl
  | cons s L ih =>
    rw [List.flatMap_cons, List.length_append, ih fun x hx => h x (by simp [hx]), sec_length (h s (by simp)), List.length_cons]
    omega
theorem recs_split (g : Nat) (l : List (List Int × Int)) (hl : ∀ q ∈ l, EntOk q) (k : Nat) (hk : k < l.length) : ∃ pre post, recsAt g l k = pre ++ u8s zsec ++ post ∧ recsAt g l (k + 1) = pre ++ u8s (entRec g l[k]) ++ post ∧ pre.length = k * 64 := by
  refine ⟨((l.take k).map (entRec g)).flatMap u8s, (List.replicate (l.length - (k + 1)) zsec).flatMap u8s, ?_, ?_, ?_⟩
  · unfold recsAt
    rw [show l.length - k = (l.length - (k + 1)) + 1 by omega, List.replicate_succ, List.flatMap_append, List.flatMap_cons, List.append_assoc]
  · unfold recsAt
    rw [List.take_succ_eq_append_getElem hk, List.map_append, List.flatMap_append, List.flatMap_append]
    simp
  · rw [flat64 _ (fun s hs => by
      obtain ⟨q, hq, rfl⟩ := List.mem_map.1 hs
      exact entRec_sec g (hl q (List.mem_of_mem_take hq)))]
    rw [List.length_map, List.length_take, Nat.min_eq_left (by omega)]
theorem ent_row {w : World} {A : Option Addr} {cap : Nat} {l : List (List Int × Int)} (h : Sn w 33 (.slice A l.length cap) l.length (l.flatMap entP)) (hok : ∀ q ∈ l, EntOk q) (k : Nat) (hk : k < l.length) :
    ∃ b off, A = some ⟨b, off, none⟩ ∧ w.rangeAt b (off + k * 33) (entP l[k]) := by
  obtain ⟨b, off, rfl, hr⟩ := h.range k hk
  rw [flatMap_pieceM entP 33 l (fun q hq => entP_length q (hok q hq)) k hk] at hr
  exact ⟨b, off, rfl, hr⟩
theorem fillW_cons (d : DiskD) (a : Int) (L : List (List Int)) (k : Nat) (hk : k < L.length) : fillW d a (L.drop k) = match writeA d a with | some x => (some x, writeD d a L[k]) | none => fillW (writeD d a L[k]) (a + 1) (L.drop (k + 1)) := by
  rw [List.drop_eq_getElem_cons hk]; rfl
end Go.Proofs.YtombncedfleljaaGreat
