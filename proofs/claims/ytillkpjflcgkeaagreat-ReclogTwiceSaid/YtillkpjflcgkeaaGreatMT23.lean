import Derived.Test.YtillkpjflcgkeaaGreatMT22
import Derived.Test.YtillkpjflcgkeaaGreatMT16
import Derived.Test.YtillkpjflcgkeaaGreatMT9
import Derived.Test.YtillkpjflcgkeaaGreatMT5
import Derived.Laws.IdiomStrings
import Derived.Lib.BytesEntry
set_option linter.unusedSimpArgs false
set_option maxRecDepth 100000
namespace Go.Proofs.YtillkpjflcgkeaaGreat
open Go.RowKit
attribute [local irreducible] wpQuiet wpAnyH
def planS (l : List PEv) (k : Int) : StA := l.foldl (stF k) (false, false, ([], .slice none 0 0))
structure Rel (d : DiskD) (r : RefD) : Prop where
 sec : d.sec = r.sec
 opn : d.opn = r.opn
 down : d.down = r.down
 st : (d.steps : Int) = r.steps
 fl : ∀ k : Int, r.steps < k → d.fl k = (planS r.plan k).1
 cr : ∀ k : Int, r.steps < k → d.cr k = if (planS r.plan k).2.1 then some (planS r.plan k).2.2.1 else none
theorem Rel.new (n : Nat) : Rel (newD n) (rnewD n) := ⟨rfl, rfl, rfl, rfl, fun _ _ => rfl, fun _ _ => rfl⟩
theorem planS_snoc (l : List PEv) (p : PEv) (k : Int) : planS (l ++ [p]) k = stF k (planS l k) p := by
 unfold planS
 rw [List.foldl_append]
 rfl
section
variable {d : DiskD} {r : RefD}
theorem Rel.nxt (h : Rel d r) : ((d.steps + 1 : Nat) : Int) = r.steps + 1 := by have := h.st; omega
theorem Rel.crS (h : Rel d r) : d.cr ((d.steps + 1 : Nat) : Int) = if (stepF r).2.1 then some (stepF r).2.2.1 else none := by rw [h.nxt]; exact h.cr _ (by omega)
theorem Rel.flS (h : Rel d r) : d.fl ((d.steps + 1 : Nat) : Int) = (stepF r).1 := by rw [h.nxt]; exact h.fl _ (by omega)
theorem Rel.out (h : Rel d r) : outS d = if (stepF r).2.1 then 2 else if (stepF r).1 then 1 else 0 := by
 unfold outS
 rw [h.crS, h.flS]
 cases (stepF r).2.1 <;> rfl
theorem Rel.cuts (h : Rel d r) (h2 : (stepF r).2.1 = true) : cutsS d = (stepF r).2.2.1 := by
 unfold cutsS
 rw [h.crS, h2]
 rfl
theorem Rel.step (h : Rel d r) : Rel (stepped d) (rstep r) where
 sec := h.sec
 opn := h.opn
 down := h.down
 st := h.nxt
 fl := fun k hk => by
  have hk : r.steps + 1 < k := hk
  show (if k = ((d.steps + 1 : Nat) : Int) then false else d.fl k) = _
  rw [if_neg (by rw [h.nxt]; omega)]
  exact h.fl k (by omega)
 cr := fun k hk => by
  have hk : r.steps + 1 < k := hk
  show (if k = ((d.steps + 1 : Nat) : Int) then none else d.cr k) = _
  rw [if_neg (by rw [h.nxt]; omega)]
  exact h.cr k (by omega)
theorem Rel.has (h : Rel d r) (a : Int) : hasB d a = rhas r a := by unfold hasB rhas; rw [h.sec]
theorem Rel.add (h : Rel d r) (a : Int) (s : List Int) : Rel (addIf d a s) (radd r a s) := by
 unfold addIf radd
 rw [h.has]
 split
 ·exact ⟨h.sec, by show d.opn ++ [(a, s)] = r.opn ++ [(a, s)]; rw [h.opn], h.down, h.st, h.fl, h.cr⟩
 ·exact h
theorem Rel.crash (h : Rel d r) (cl : List Int) : Rel (crashD d cl) (rcrashD r cl) :=
 ⟨by show crashL d.sec d.opn cl = crashL r.sec r.opn cl; rw [h.sec, h.opn], rfl, rfl, h.st, h.fl, h.cr⟩
theorem Rel.clean (h : Rel d r) : Rel (syncD d) (rcleanD r) :=
 ⟨by show syncN d.sec d.opn d.opn.length = syncN r.sec r.opn r.opn.length; rw [h.sec, h.opn], rfl, h.down, h.st, h.fl, h.cr⟩
theorem Rel.start (h : Rel d r) : Rel (startD d) { r with down := false } := ⟨h.sec, h.opn, rfl, h.st, h.fl, h.cr⟩
theorem Rel.write (h : Rel d r) (a : Int) (s : List Int) : Rel (writeD d a s) (rwriteD r a s) := by
 unfold writeD rwriteD
 rw [h.down, h.out]
 cases hd : r.down with
 | true => exact h
 | false =>
  cases h2 : (stepF r).2.1 with
  | true =>
   have := (h.step.add a s).crash (stepF r).2.2.1
   rw [← h.cuts h2] at this
   rw [← h.cuts h2]
   exact this
  | false =>
   cases h1 : (stepF r).1 with
   | true => exact h.step
   | false => exact h.step.add a s
theorem Rel.writeA (h : Rel d r) (a : Int) : codeA (writeA d a) = rwriteA r a ∧ (writeA d a = none ↔ rwriteA r a = 0) := by
 unfold Go.Proofs.YtillkpjflcgkeaaGreat.writeA rwriteA
 rw [h.down, h.out, h.has]
 cases r.down <;> cases (stepF r).2.1 <;> cases (stepF r).1 <;> cases rhas r a <;> simp [codeA]
theorem Rel.sync (h : Rel d r) : Rel (syncS d) (rsyncD r) := by
 unfold syncS rsyncD
 rw [h.down, h.out]
 cases hd : r.down with
 | true => exact h
 | false =>
  cases h2 : (stepF r).2.1 with
  | true =>
   have := h.step.crash (stepF r).2.2.1
   rw [← h.cuts h2] at this
   rw [← h.cuts h2]
   exact this
  | false =>
   cases h1 : (stepF r).1 with
   | true => exact h.step
   | false => exact h.step.clean
theorem Rel.syncA (h : Rel d r) : codeA (syncA d) = rsyncA r ∧ (syncA d = none ↔ rsyncA r = 0) := by
 unfold Go.Proofs.YtillkpjflcgkeaaGreat.syncA rsyncA
 rw [h.down, h.out]
 cases r.down <;> cases (stepF r).2.1 <;> cases (stepF r).1 <;> simp [codeA]
theorem Rel.ws (h : Rel d r) (a : Int) (s : List Int) : Rel (wsD d a s) (rwsD r a s) := by
 unfold wsD rwsD
 have hw := h.writeA a
 cases ha : Go.Proofs.YtillkpjflcgkeaaGreat.writeA d a with
 | none => rw [if_pos (hw.2.1 ha)]; exact (h.write a s).sync
 | some x => rw [if_neg (fun e => by have := hw.2.2 e; rw [ha] at this; cases this)]; exact h.write a s
theorem Rel.wsA (h : Rel d r) (a : Int) (s : List Int) : codeA (wsA d a s) = rwsA r a s ∧ (wsA d a s = none ↔ rwsA r a s = 0) := by
 unfold Go.Proofs.YtillkpjflcgkeaaGreat.wsA rwsA
 have hw := h.writeA a
 cases ha : Go.Proofs.YtillkpjflcgkeaaGreat.writeA d a with
 | none => rw [if_pos (hw.2.1 ha)]; exact (h.write a s).syncA
 | some x =>
  rw [if_neg (fun e => by have := hw.2.2 e; rw [ha] at this; cases this)]
  rw [ha] at hw
  exact hw
theorem room_lt (z p : Int) (hp : ¬ p < 1) : room z < p ↔ z ≤ p := by
 unfold room
 split <;> omega
theorem Rel.put (h : Rel d r) (f z p : Int) (g : Nat) (q : Ent2) : Rel (putD d f z p g q) (rputD r f z p g q) := by
 unfold putD rputD
 by_cases hp : p < 1
 ·rw [if_pos hp, if_pos hp]; exact h
 ·rw [if_neg hp, if_neg hp]
  have hz := room_lt z p hp
  by_cases h2 : z ≤ p
  ·rw [if_pos h2, if_pos (hz.2 h2)]; exact h
  ·rw [if_neg h2, if_neg (fun e => h2 (hz.1 e))]
   split
   ·exact h.ws _ _
   ·exact h
theorem Rel.putA (h : Rel d r) (f z p : Int) (g : Nat) (q : Ent2) : codeA (putA d f z p g q) = rputA r f z p g q ∧ (putA d f z p g q = none ↔ rputA r f z p g q = 0) := by
 unfold Go.Proofs.YtillkpjflcgkeaaGreat.putA rputA
 by_cases hp : p < 1
 ·rw [if_pos hp, if_pos hp]; exact ⟨rfl, by simp⟩
 ·rw [if_neg hp, if_neg hp]
  have hz := room_lt z p hp
  by_cases h2 : z ≤ p
  ·rw [if_pos h2, if_pos (hz.2 h2)]; exact ⟨rfl, by simp⟩
  ·rw [if_neg h2, if_neg (fun e => h2 (hz.1 e))]
   split
   ·exact h.wsA _ _
   ·exact ⟨rfl, by simp⟩
end
theorem Rel.fillW : ∀ (L : List (List Int)) {d : DiskD} {r : RefD} (_ : Rel d r) (a : Int), Rel (fillW d a L).2 (rfillW r a L).1 ∧ codeA (fillW d a L).1 = (rfillW r a L).2 ∧ ((fillW d a L).1 = none ↔ (rfillW r a L).2 = 0)
 | [], d, r, h, a => ⟨h.sync, h.syncA⟩
 | s :: L, d, r, h, a => by
  unfold Go.Proofs.YtillkpjflcgkeaaGreat.fillW rfillW
  have hw := h.writeA a
  cases ha : Go.Proofs.YtillkpjflcgkeaaGreat.writeA d a with
  | none => rw [if_pos (hw.2.1 ha)]; exact Rel.fillW L (h.write a s) (a + 1)
  | some x =>
   rw [if_neg (fun e => by have := hw.2.2 e; rw [ha] at this; cases this)]
   rw [ha] at hw
   exact ⟨h.write a s, hw⟩
theorem room_max (z : Int) (n : Nat) : room z < n ↔ max (z - 1) 0 < (n : Int) := by
 unfold room
 split <;> omega
theorem Rel.fill {d : DiskD} {r : RefD} (h : Rel d r) (f z : Int) (g : Nat) (l : List Ent2) : Rel (fillR d f z g l).2 (rfillD r f z g l).1 ∧ codeA (fillR d f z g l).1 = (rfillD r f z g l).2 ∧ ((fillR d f z g l).1 = none ↔ (rfillD r f z g l).2 = 0) := by
 unfold fillR rfillD
 have hz := room_max z l.length
 by_cases h2 : max (z - 1) 0 < (l.length : Int)
 ·rw [if_pos h2, if_pos (hz.2 h2)]; exact ⟨h, rfl, by simp⟩
 ·rw [if_neg h2, if_neg (fun e => h2 (hz.1 e))]
  split
  ·exact Rel.fillW _ h _
  ·exact ⟨h, rfl, by simp⟩
theorem Rel.planF {d : DiskD} {r : RefD} (h : Rel d r) (n : Int) (cl : List Int) (v : Value) : Rel (planF d n) (rplanD r n false cl v) := by
 unfold Go.Proofs.YtillkpjflcgkeaaGreat.planF rplanD
 split
 ·exact h
 ·refine ⟨h.sec, h.opn, h.down, h.st, fun k hk => ?_, fun k hk => ?_⟩
  ·have hk : r.steps < k := hk
   show (if k = (d.steps : Int) + n then true else d.fl k) = (planS (r.plan ++ [_]) k).1
   rw [planS_snoc, h.st]
   unfold stF
   by_cases e : k = r.steps + n
   ·rw [if_pos e, if_pos e.symm]; rfl
   ·rw [if_neg e, if_neg (fun e2 => e e2.symm)]; exact h.fl k hk
  ·have hk : r.steps < k := hk
   show d.cr k = if (planS (r.plan ++ [_]) k).2.1 then some (planS (r.plan ++ [_]) k).2.2.1 else none
   rw [planS_snoc]
   by_cases e : k = r.steps + n
   ·rw [show stF k (planS r.plan k) ⟨r.steps + n, false, cl, v⟩ = (true, (planS r.plan k).2.1, (planS r.plan k).2.2) from if_pos e.symm]; exact h.cr k hk
   ·rw [show stF k (planS r.plan k) ⟨r.steps + n, false, cl, v⟩ = planS r.plan k from if_neg (fun e2 => e e2.symm)]; exact h.cr k hk
theorem Rel.planC {d : DiskD} {r : RefD} (h : Rel d r) (n : Int) (cl : List Int) (v : Value) : Rel (planC d n cl) (rplanD r n true cl v) := by
 unfold Go.Proofs.YtillkpjflcgkeaaGreat.planC rplanD
 split
 ·exact h
 ·refine ⟨h.sec, h.opn, h.down, h.st, fun k hk => ?_, fun k hk => ?_⟩
  ·have hk : r.steps < k := hk
   show d.fl k = (planS (r.plan ++ [_]) k).1
   rw [planS_snoc]
   unfold stF
   by_cases e : k = r.steps + n
   ·rw [if_pos e.symm]; exact h.fl k hk
   ·rw [if_neg (fun e2 => e e2.symm)]; exact h.fl k hk
  ·have hk : r.steps < k := hk
   show (if k = (d.steps : Int) + n then some cl else d.cr k) = if (planS (r.plan ++ [_]) k).2.1 then some (planS (r.plan ++ [_]) k).2.2.1 else none
   rw [planS_snoc, h.st]
   unfold stF
   by_cases e : k = r.steps + n
   ·rw [if_pos e, if_pos e.symm]; rfl
   ·rw [if_neg e, show (if (⟨r.steps + n, true, cl, v⟩ : PEv).step = k then _ else planS r.plan k) = planS r.plan k from if_neg (fun e2 => e e2.symm)]; exact h.cr k hk
def rdR (r : RefD) (a : Int) : List Int := if r.down then zsec else if rhas r a then (((r.opn.filter (fun p => p.1 == a)).getLast?).map (·.2)).getD (r.sec.getD a.toNat []) else zsec
theorem Rel.rd {d : DiskD} {r : RefD} (h : Rel d r) (a : Int) : rdS d a = rdR r a := by
 unfold rdS rdR
 rw [h.down, h.has]
 unfold rdD
 rw [h.opn, h.sec]
def rsecs (r : RefD) (a : Int) : Nat → List (List Int)
 | 0 => []
 | n + 1 => rdR r a :: rsecs r (a + 1) n
theorem Rel.secs {d : DiskD} {r : RefD} (h : Rel d r) (hd : r.down = false) : ∀ (n : Nat) (a : Int), 0 ≤ a → a.toNat + n ≤ r.sec.length → secsL d a n = (rsecs r a n).map (fun s => (s, none))
 | 0, a, _, _ => rfl
 | n + 1, a, h0, hl => by
  have hh : hasB d a = true := by unfold hasB; rw [h.sec]; simp; omega
  have e1 : rdA d a = none := by unfold rdA; rw [h.down, hd, hh]; rfl
  rw [secsL, e1, if_pos rfl, h.rd, Rel.secs h hd n (a + 1) (by omega) (by omega)]
  rfl
theorem Rel.scan {d : DiskD} {r : RefD} (h : Rel d r) (hd : r.down = false) (n : Nat) (a : Int) (h0 : 0 ≤ a) (hl : a.toNat + n ≤ r.sec.length) : scanR (none, []) (secsL d a n) = (scanL (none, []) (rsecs r a n), none) := by
 rw [h.secs hd n a h0 hl, scan_still]
end Go.Proofs.YtillkpjflcgkeaaGreat
namespace Go.Proofs.YtillkpjflcgkeaaGreat
open Go.RowKit
attribute [local irreducible] wpQuiet wpAnyH
def rdRA (r : RefD) (a : Int) : Int := if r.down then 12 else if rhas r a then 0 else 15
def rdK (r : RefD) (a : Int) (k : Nat) : List Int := ((((r.opn.take k).filter (fun p => p.1 == a)).getLast?).map (·.2)).getD (r.sec.getD a.toNat [])
theorem rdK_yes {r : RefD} {a : Int} {k : Nat} (hk : k < r.opn.length) (he : r.opn[k].1 = a) : rdK r a (k + 1) = r.opn[k].2 := by
 unfold rdK
 rw [List.take_succ_eq_append_getElem hk, List.filter_append]
 simp [he]
theorem rdK_no {r : RefD} {a : Int} {k : Nat} (hk : k < r.opn.length) (he : r.opn[k].1 ≠ a) : rdK r a (k + 1) = rdK r a k := by
 unfold rdK
 rw [List.take_succ_eq_append_getElem hk, List.filter_append]
 simp [he]
theorem rdK_sec {r : RefD} (h : ROk r) {a : Int} (h0 : 0 ≤ a) (h1 : a < r.sec.length) : ∀ k, k ≤ r.opn.length → Sec (rdK r a k)
 | 0, _ => by
  have hlt : a.toNat < r.sec.length := by omega
  have : rdK r a 0 = r.sec[a.toNat] := by unfold rdK; simp [hlt]
  rw [this]
  exact h.sec _ (List.getElem_mem hlt)
 | k + 1, hk => by
  by_cases he : r.opn[k].1 = a
  ·rw [rdK_yes (by omega) he]; exact (h.opn _ (List.getElem_mem (by omega))).2.2
  ·rw [rdK_no (by omega) he]; exact rdK_sec h h0 h1 k (by omega)
theorem rdR_sec {r : RefD} (h : ROk r) (a : Int) : Sec (rdR r a) := by
 unfold rdR
 cases hd : r.down with
 | true => exact zsec_sec
 | false =>
  cases hh : rhas r a with
  | false => exact zsec_sec
  | true =>
   have h2 : 0 ≤ a ∧ a < r.sec.length := by unfold rhas at hh; simpa using hh
   have := rdK_sec h h2.1 h2.2 r.opn.length (Nat.le_refl _)
   unfold rdK at this
   rw [List.take_length] at this
   exact this
set_option maxHeartbeats 4000000 in
theorem ref_read (m : RM) (r : RefD) (a : Int) (w : World) (h : RK w m r) (ha : isI64 a) :
  Calls Tryz.prog 89 #[.agg (refC m r), .int .i64 a] w fun e w' => e = .returned (.tuple #[.agg (u8s (rdR r a)).toArray, .int .i64 (rdRA r a)]) ∧ Below w.heap.size w w' := by
 obtain ⟨As, cs, es⟩ := h.sec.slc
 obtain ⟨Ao, co, eo⟩ := h.opn.slc
 have HK := Lib.hid h
 have hcells : refC m r = #[.slice As r.sec.length cs, .slice Ao r.opn.length co, .bool r.down, .int .i64 r.steps, m.pv] := by unfold refC; rw [es, eo]
 have HSC : Hid (Sn w 64 (.slice As r.sec.length cs) r.sec.length (r.sec.flatMap u8s)) := jz (by rw [← es]; exact h.sec)
 have HOP : Hid (Sn w 65 (.slice Ao r.opn.length co) r.opn.length (r.opn.flatMap wrC)) := jz (by rw [← eo]; exact h.opn)
 obtain ⟨w1, hw1⟩ : ∃ w1, w1 = (w.alloc (.cells (refC m r) 31)).alloc (.cells z64 72) := ⟨_, rfl⟩
 have hA1 : Blk w1 w.heap.size 31 #[.slice As r.sec.length cs, .slice Ao r.opn.length co, .bool r.down, .int .i64 r.steps, m.pv] := by rw [hw1, ← hcells]; exact (Blk.new _ _ _).alloc _
 have hB1 : Blk w1 (w.heap.size + 1) 72 z64 := by rw [hw1]; exact Blk.newAt _ _ _ _ (by simp)
 have hb1 : Below w.heap.size w w1 := by rw [hw1]; exact bstep (bel1 _ _) (bel1 _ _)
 have hsz1 : w1.heap.size = w.heap.size + 2 := by rw [hw1]; simp
 have hc0 := hA1.cell 0
 have hc2 := hA1.cell 2
 simp only [List.getElem?_toArray, List.getElem?_cons_zero, List.getElem?_cons_succ] at hc0 hc2
 have hzl : z64.size = 64 := z64_size
 have HZ := Lib.hid z64_zsec
 have HZ1 : Hid (z64.all (·.oneCell') = true) := jz (by rw [z64_zsec]; exact u8s_one _)
 have HU : Hid (∀ s, Sec s → (Tryz.prog.info? 72).map (·.size) = some (u8s s).length) := jz (fun s hs => by rw [sec_length hs]; kernel_rfl)
 have HZS : Hid (Sec zsec) := Lib.hid zsec_sec
 have a1 : -9223372036854775808 ≤ a := ha.1
 have a2 : a ≤ 9223372036854775807 := ha.2
 have HA1 := Lib.hid hA1
 have HB1 := Lib.hid hB1
 have HW1 := Lib.hid hb1
 have hlen4 : (r.sec.length : Int) ≤ 4096 := by have := h.ok.few; omega
 have hlo : (r.opn.length : Int) ≤ 50000 := by have := h.ok.lo; omega
 clear hA1 hB1 hb1 h ha es eo hcells
 cases hd : r.down with
 | true =>
  rw [hd] at hc2
  have HF : Hid (rdR r a = zsec ∧ rdRA r a = 12) := jz (by unfold rdR rdRA; rw [hd]; exact ⟨rfl, rfl⟩)
  clear hd
  go_enter Tryz.func89, Tryz.ntmps89
  go_upto_region 1 with (refine al 72 z64 rfl rfl zero64 ?_)
  rw [← hw1]
  clear hw1
  go_wp2_with (first
   | (refine bld 72 #[] rfl rfl rfl built64 ?_)
   | (refine stBlk 72 (.tmp 4) (.tmp 10) rfl rfl rfl rfl HB1.out (by rw [hzl]; kernel_rfl) rfl HZ1.out ?_; intro w3 hB3 hb3 _ _; have HB3 := Lib.hid hB3; have HE3 := Lib.hid hb3; clear hB3 hb3))
  have hr : w3.rangeAt (w.heap.size + 1) 0 (u8s zsec) := by have h := HB3.out.range; rw [HZ.out, List.toList_toArray] at h; exact h
  exact bodyPost_ret (results_cellR_tmp rfl _ rfl hr Tryz.underlying72 rfl (HU.out _ HZS.out)) rfl ⟨by rw [HF.out.1, HF.out.2]; rfl, HW1.out.trans (HE3.out.mono (by omega))⟩
 | false =>
  rw [hd] at hc2
  cases hh : rhas r a with
  | false =>
   have HF : Hid (rdR r a = zsec ∧ rdRA r a = 15) := jz (by unfold rdR rdRA; rw [hd, hh]; exact ⟨rfl, rfl⟩)
   have hout : a < 0 ∨ (0 ≤ a ∧ (r.sec.length : Int) ≤ a) := by
    unfold rhas at hh
    rcases Int.lt_or_le a 0 with h | h
    ·exact .inl h
    ·simp [h] at hh; exact .inr ⟨h, hh⟩
   clear hd hh
   rcases hout with t1 | ⟨t1, t2⟩
   all_goals
    go_enter Tryz.func89, Tryz.ntmps89
    go_upto_region 1 with (refine al 72 z64 rfl rfl zero64 ?_)
    rw [← hw1]
    clear hw1
    go_wp2_with (first
     | (refine bld 72 #[] rfl rfl rfl built64 ?_)
     | (refine stBlk 72 (.tmp 4) (.tmp 20) rfl rfl rfl rfl HB1.out (by rw [hzl]; kernel_rfl) rfl HZ1.out ?_; intro w3 hB3 hb3 _ _; have HB3 := Lib.hid hB3; have HE3 := Lib.hid hb3; clear hB3 hb3))
    have hr : w3.rangeAt (w.heap.size + 1) 0 (u8s zsec) := by have h := HB3.out.range; rw [HZ.out, List.toList_toArray] at h; exact h
    exact bodyPost_ret (results_cellR_tmp rfl _ rfl hr Tryz.underlying72 rfl (HU.out _ HZS.out)) rfl ⟨by rw [HF.out.1, HF.out.2]; rfl, HW1.out.trans (HE3.out.mono (by omega))⟩
  | true =>
   have hh2 : 0 ≤ a ∧ a < r.sec.length := by unfold rhas at hh; simpa using hh
   have HF : Hid (rdR r a = rdK r a r.opn.length ∧ rdRA r a = 0) := jz (by unfold rdR rdRA rdK; rw [hd, hh, List.take_length]; exact ⟨rfl, rfl⟩)
   have HRS : Hid (∀ k, k ≤ r.opn.length → Sec (rdK r a k)) := jz (rdK_sec HK.out.ok hh2.1 hh2.2)
   have HST : Hid (∀ s, Sec s → (64 = (u8s s).toArray.size) ∧ ((u8s s).toArray.all (·.oneCell') = true) ∧ (Tryz.prog.info? 72).map (·.size) = some (u8s s).toArray.size) := jz (fun s hs => ⟨by simp [sec_length hs], u8s_one s, by simp only [List.size_toArray, sec_length hs]; kernel_rfl⟩)
   clear hd hh
   obtain ⟨k, rfl⟩ := Int.eq_ofNat_of_zero_le hh2.1
   have hk : k < r.sec.length := by omega
   obtain ⟨b, off, rfl, hr⟩ := at_sec HSC.out HK.out.ok.sec k hk
   have HRG : Hid (w1.rangeAt b (off + k * 64) (u8s (rdK r k 0))) := jz (by
    have e : rdK r k 0 = r.sec[k] := by unfold rdK; simp [hk]
    rw [e]
    exact fun j u hj => Below.cell' HW1.out (hr j u hj))
   have t1 : (0 : Int) ≤ k := hh2.1
   have t2 : (k : Int) < r.sec.length := hh2.2
   have HS0 := jz (HRS.out 0 (Nat.zero_le _))
   have HS3 := jz (HST.out _ HS0.out)
   have HW2 : Hid (Below w.heap.size w (w1.alloc (.cells z64 72))) := jz (bstep HW1.out (bel1 _ _))
   obtain ⟨D0, hD0⟩ : ∃ D0, D0 = u8s (rdK r k 0) := ⟨_, rfl⟩
   rw [← hD0] at HRG HS3
   have HD0 := Lib.hid hD0
   clear hr hh2 hD0
   go_enter Tryz.func89, Tryz.ntmps89
   go_upto_region 1 with (refine al 72 z64 rfl rfl zero64 ?_)
   rw [← hw1]
   clear hw1
   go_upto_region 6 with (first
    | (refine ld 72 _ rfl rfl rfl HRG.out Tryz.underlying72 rfl (by simpa using HS3.out.2.2) ?_)
    | (refine al 72 z64 rfl rfl zero64 ?_)
    | (refine stNew 72 (.tmp 6) (.tmp 25) rfl rfl rfl rfl HS3.out.2.2 (by rw [hzl]; exact HS3.out.1) HS3.out.2.1 ?_; intro w3 hB3 hb3 hs3))
   rw [hsz1] at hB3 hb3 hs3 ⊢
   have HB3 : Hid (Blk w3 (w.heap.size + 2) 72 (u8s (rdK r k 0)).toArray) := jz (by rw [← HD0.out]; exact hB3)
   have hb13 : Below (w.heap.size + 2) w1 w3 := hb3
   have HA3 : Hid (Blk w3 w.heap.size 31 #[.slice (some ⟨b, off, none⟩) r.sec.length cs, .slice Ao r.opn.length co, .bool r.down, .int .i64 r.steps, m.pv]) := jz (HA1.out.below hb13 (by omega))
   have HZ3 : Hid (Blk w3 (w.heap.size + 1) 72 z64) := jz (HB1.out.below hb13 (by omega))
   have HW3 : Hid (Below w.heap.size w w3) := jz (HW1.out.trans (hb13.mono (by omega)))
   clear hB3 hb3 hs3 hb13 hc0 hc2 HS3 HRG HW1 HW2 HA1 HB1
   go_wp2_with fail
   go_loopw [7] (fun i wr => ∃ j : Nat, j ≤ r.opn.length ∧ i = .int .i64 (j : Int) ∧ Hid (Blk wr (w.heap.size + 2) 72 (u8s (rdK r k j)).toArray) ∧ Hid (Blk wr w.heap.size 31 #[.slice (some ⟨b, off, none⟩) r.sec.length cs, .slice Ao r.opn.length co, .bool r.down, .int .i64 r.steps, m.pv]) ∧ Hid (Blk wr (w.heap.size + 1) 72 z64) ∧ Hid (Below w.heap.size w wr)) (fun i _ => r.opn.length - (intOf i).toNat)
   case atStart => exact ⟨0, Nat.zero_le _, rfl, HB3, HA3, HZ3, HW3⟩
   case round =>
    obtain ⟨j, hj, rfl, HBr, HAr, HZr, HWr⟩ := hrel
    have hc1 := HAr.out.cell 1
    simp only [List.getElem?_toArray, List.getElem?_cons_zero, List.getElem?_cons_succ] at hc1
    rcases Nat.lt_or_ge j r.opn.length with hlt | hge
    ·obtain ⟨b1, o1, rfl, hr1⟩ := at_wr (HOP.out.below HWr.out) (fun p hp => (HK.out.ok.opn p hp).2.2) j hlt
     have HN := jz (fun (he : r.opn[j].1 = k) => rdK_yes (r := r) (a := k) hlt he)
     have HM := jz (fun (he : r.opn[j].1 ≠ k) => rdK_no (r := r) (a := k) hlt he)
     have hp := HK.out.ok.opn _ (List.getElem_mem hlt)
     obtain ⟨⟨q, dat⟩, hpe⟩ : ∃ p, p = r.opn[j] := ⟨_, rfl⟩
     rw [← hpe] at hr1 hp HN HM
     clear hpe
     have e0 : wr.cell? ⟨b1, o1 + j * 65, none⟩ = some (.int .i64 q) := hr1 0 _ rfl
     have HRD : Hid (wr.rangeAt b1 (o1 + j * 65 + 1) (u8s dat)) := jz (fun i u hi => by
      have := hr1 (i + 1) u hi
      rw [show o1 + j * 65 + 1 + i = o1 + j * 65 + (i + 1) by omega]
      exact this)
     have HSD := jz (HST.out _ hp.2.2)
     have hj0 : (0 : Int) ≤ j := by omega
     have hj1 : (j : Int) < r.opn.length := by omega
     have HL64 : Hid ((u8s (rdK r k j)).toArray.size = 64) := jz ((HST.out _ (HRS.out j hj)).1.symm)
     clear hr1 hp
     rcases Bool.eq_false_or_eq_true (q == (k : Int)) with t3 | t3
     ·have hq : q = k := by simpa using t3
      have HN2 := jz (HN.out hq)
      clear HN HM hq
      go_wp2_with (first
       | (refine ld 72 _ rfl rfl rfl HRD.out Tryz.underlying72 rfl (by simpa using HSD.out.2.2) ?_)
       | (refine stBlk 72 (.tmp 6) (.tmp 46) rfl rfl rfl rfl HBr.out HSD.out.2.2 (HL64.out.trans HSD.out.1) HSD.out.2.1 ?_; intro w4 hB4 hb4 ho4 hs4; have HB4 := Lib.hid hB4; have HE4 := Lib.hid hb4; have HO4 := Lib.hid ho4; clear hB4 hb4 ho4 hs4))
      exact ⟨⟨j + 1, by omega, by go_num, jz (by rw [HN2.out]; exact HB4.out), jz ((HO4.out _ (by omega)).trans HAr.out), jz ((HO4.out _ (by omega)).trans HZr.out), jz (HWr.out.trans (HE4.out.mono (by omega)))⟩, by simp [intOf]; omega⟩
     ·have hq : q ≠ k := by simpa using t3
      have HM2 := jz (HM.out hq)
      clear HN HM hq
      go_wp2_with fail
      exact ⟨⟨j + 1, by omega, by go_num, jz (by rw [HM2.out]; exact HBr.out), HAr, HZr, HWr⟩, by simp [intOf]; omega⟩
    ·obtain rfl : j = r.opn.length := by omega
     have hr := HBr.out.range
     rw [List.toList_toArray] at hr
     have HR := Lib.hid hr
     have HSE := jz (HST.out _ (HRS.out r.opn.length (Nat.le_refl _)))
     clear hr
     obtain ⟨D1, hD1⟩ : ∃ D1, D1 = u8s (rdK r k r.opn.length) := ⟨_, rfl⟩
     rw [← hD1] at HR HSE
     have HD1 := Lib.hid hD1
     clear hD1
     go_wp2_with (first
      | (refine ld 72 _ rfl rfl rfl HR.out Tryz.underlying72 rfl (by simpa using HSE.out.2.2) ?_)
      | (refine stBlk 72 (.tmp 4) (.tmp 47) rfl rfl rfl rfl HZr.out HSE.out.2.2 (hzl.trans HSE.out.1) HSE.out.2.1 ?_; intro w4 hB4 hb4 ho4 hs4; have HB4 := Lib.hid hB4; have HE4 := Lib.hid hb4; clear hB4 hb4 ho4 hs4))
     have hr4 : w4.rangeAt (w.heap.size + 1) 0 D1 := by have h := HB4.out.range; rw [List.toList_toArray] at h; exact h
     exact bodyPost_ret (results_cellR_tmp rfl _ rfl hr4 Tryz.underlying72 rfl (by simpa using HSE.out.2.2)) rfl ⟨by rw [HF.out.1, HF.out.2, ← HD1.out]; rfl, HWr.out.trans (HE4.out.mono (by omega))⟩
theorem sec_two {s : List Int} (hl : s.length = 64) (hb : Bys s) : ∃ a b : Nat, a < 256 ∧ b < 256 ∧ s[0]? = some (a : Int) ∧ s[1]? = some (b : Int) ∧ beN (s.take 2) = a * 256 + b := by
 obtain ⟨a, ha, ea⟩ := sec_at hl hb 0 (by omega)
 obtain ⟨b, hb', eb⟩ := sec_at hl hb 1 (by omega)
 refine ⟨a, b, ha, hb', ea, eb, ?_⟩
 have e : s.take 2 = [(a : Int), b] := by
  apply List.ext_getElem?
  intro j
  rw [List.getElem?_take]
  match j with
  | 0 => simpa using ea
  | 1 => simpa using eb
  | j + 2 => simp; omega
 rw [e, beN_cons, beN_cons]
 simp only [List.length_cons, List.length_nil, Int.toNat_natCast]
 show _ + (_ + 0) = _
 omega
theorem zeros_all {l : List Int} (h : ∀ c ∈ l, c = 0) : zeros l = true := by
 unfold zeros
 rw [List.all_eq_true]
 exact fun c hc => decide_eq_true (h c hc)
theorem zeros_part {s : List Int} {n : Nat} (hl : s.length = 64) (hn : n ≤ 54) (h : ∀ j, 2 + n ≤ j → j < 56 → s[j]? = some 0) : zeros ((s.drop (2 + n)).take (54 - n)) = true :=
 zeros_all fun c hc => by
  obtain ⟨i, hi, rfl⟩ := List.getElem_of_mem hc
  have hi2 : i < 54 - n := by rw [List.length_take] at hi; omega
  have := h (2 + n + i) (by omega) (by omega)
  rw [List.getElem_take, List.getElem_drop]
  exact Option.some.inj ((List.getElem?_eq_getElem (by omega)).symm.trans this)
theorem zeros_not {s : List Int} {n k : Nat} {c : Int} (h1 : 2 + n ≤ k) (h2 : k < 56) (hk : s[k]? = some c) (hc : c ≠ 0) : zeros ((s.drop (2 + n)).take (54 - n)) = false := by
 unfold zeros
 rw [Bool.eq_false_iff]
 intro ha
 rw [List.all_eq_true] at ha
 refine hc (of_decide_eq_true (ha c ?_))
 refine List.mem_iff_getElem?.2 ⟨k - (2 + n), ?_⟩
 rw [List.getElem?_take_of_lt (by omega), List.getElem?_drop, show 2 + n + (k - (2 + n)) = k by omega]
 exact hk
set_option maxHeartbeats 4000000 in
theorem ref17_parse (s : List Int) (w : World) (hl : s.length = 64) (hb : Bys s) :
    Calls Tryz.prog 106 #[.agg (u8s s).toArray] w fun e w' => Below w.heap.size w w' ∧
      ((prs s = none ∧ e = .returned (.tuple #[.int .u32 0, .slice none 0 0, .bool false])) ∨
       (∃ g p v, prs s = some (g, p) ∧ e = .returned (.tuple #[.int .u32 g, v, .bool true]) ∧ Sn w' 1 v p.length (u8s p))) := by
  obtain ⟨w1, hw1⟩ : ∃ w1, w1 = w.alloc (.cells (u8s s).toArray 72) := ⟨_, rfl⟩
  have hB1 : Blk w1 w.heap.size 72 (u8s s).toArray := by rw [hw1]; exact Blk.new _ _ _
  have hb1 : Below w.heap.size w w1 := by rw [hw1]; exact bel1 _ _
  obtain ⟨a, b, ha, hb', ea, eb, hN⟩ := sec_two hl hb
  obtain ⟨c0, c1, c2, c3, hc0, hc1, hc2, hc3, e0, e1, e2, e3, hX⟩ := sec_four hl hb 56 (by omega)
  obtain ⟨N, hNN⟩ : ∃ N, N = beN (s.take 2) := ⟨_, rfl⟩
  obtain ⟨X, hXX⟩ : ∃ X, X = beN ((s.drop 56).take 4) := ⟨_, rfl⟩
  rw [← hNN] at hN
  rw [← hXX] at hX
  have HN := Lib.hid hN
  have HX := Lib.hid hX
  have HNN := Lib.hid hNN
  have HXX := Lib.hid hXX
  have hul : (u8s s).length = 64 := by rw [u8s_length, hl]
  have k0 : w1.cell? ⟨w.heap.size, 0, none⟩ = some (.int .u8 (a : Nat)) := by rw [hB1.cell 0, List.getElem?_toArray]; exact u8s_at ea
  have k1 : w1.cell? ⟨w.heap.size, 1, none⟩ = some (.int .u8 (b : Nat)) := by rw [hB1.cell 1, List.getElem?_toArray]; exact u8s_at eb
  have HB1 := Lib.hid hB1
  have HW1 := Lib.hid hb1
  have HL := Lib.hid hl
  have HBY := Lib.hid hb
  have HUI : Hid ((Tryz.prog.info? 72).map (·.size) = some (u8s s).length) := jz (by rw [hul]; kernel_rfl)
  have m0 : w1.cell? ⟨w.heap.size, 56, none⟩ = some (.int .u8 (c0 : Nat)) := by rw [hB1.cell 56, List.getElem?_toArray]; exact u8s_at e0
  have m1 : w1.cell? ⟨w.heap.size, 57, none⟩ = some (.int .u8 (c1 : Nat)) := by rw [hB1.cell 57, List.getElem?_toArray]; exact u8s_at e1
  have m2 : w1.cell? ⟨w.heap.size, 58, none⟩ = some (.int .u8 (c2 : Nat)) := by rw [hB1.cell 58, List.getElem?_toArray]; exact u8s_at e2
  have m3 : w1.cell? ⟨w.heap.size, 59, none⟩ = some (.int .u8 (c3 : Nat)) := by rw [hB1.cell 59, List.getElem?_toArray]; exact u8s_at e3
  clear hN hX hNN hXX ea eb e0 e1 e2 e3 hB1 hb1 hb hl hul
  go_enter Tryz.func106, Tryz.ntmps106
  go_upto_region 1 with fail
  rw [← hw1]
  clear hw1
  go_cut [5] from 8 to 16 (fun n wx => n = .int .i64 (N : Int) ∧ wx = w1)
  case first =>
    go_wp2_with fail
    go_meet
    exact ⟨congrArg (Value.int .i64) (by have := HN.out; omega), by trivial⟩
  case rest =>
  obtain ⟨rfl, hwc⟩ := hcut
  rw [hwc]
  clear hwc k0 k1
  go_upto_region 2 with fail
  go_cut [6] from 16 to 34 (fun n wx => n = .int .u32 (X : Int) ∧ wx = w1)
  case first =>
    go_wp2_with fail
    go_meet
    exact ⟨congrArg (Value.int .u32) (by have := HX.out; omega), by trivial⟩
  case rest =>
  obtain ⟨rfl, hwc⟩ := hcut
  rw [hwc]
  clear hwc m0 m1 m2 m3
  have hr1 := HB1.out.range
  rw [List.toList_toArray] at hr1
  have HR1 := Lib.hid hr1
  have HSUM := jz (ref17_sum s w1 HL.out HBY.out)
  obtain ⟨C, hC⟩ : ∃ C, C = crcSum (s.take 56 ++ s.drop 60) := ⟨_, rfl⟩
  rw [← hC] at HSUM
  have HC := Lib.hid hC
  clear hC hr1
  rcases Bool.eq_false_or_eq_true (decide ((54 : Int) < N)) with t1 | t1
  · have HF : Hid (prs s = none) := jz (by unfold prs; rw [← HNN.out, if_pos (by have := of_decide_eq_true t1; omega)])
    go_wp2_with fail
    go_ret3
    exact ⟨HW1.out, .inl ⟨HF.out, rfl⟩⟩
  · have hn54 : N ≤ 54 := by have := of_decide_eq_false t1; omega
    rcases Bool.eq_false_or_eq_true ((X : Int) != (C : Int)) with t2 | t2
    · have HF : Hid (prs s = none) := jz (by
        unfold prs
        rw [← HNN.out, ← HXX.out, ← HC.out, if_neg (by omega)]
        split
        · rfl
        · rw [if_pos (by have : (X : Int) ≠ C := by simpa using t2
                         omega)])
      go_wp2_with (first
        | (refine ld 72 _ rfl rfl rfl HR1.out Tryz.underlying72 rfl HUI.out ?_)
        | (go_at_call 52; refine HSUM.out.mono ?_; rintro e w2 ⟨rfl, hb2⟩; have HB2 := Lib.hid hb2; clear hb2))
      go_ret3
      exact ⟨bstep HW1.out HB2.out, .inl ⟨HF.out, rfl⟩⟩
    · have HXC : Hid (X = C) := Lib.hid (by have : (X : Int) = C := by simpa using t2
                                            omega)
      go_upto_region 6 with (first
        | (refine ld 72 _ rfl rfl rfl HR1.out Tryz.underlying72 rfl HUI.out ?_)
        | (go_at_call 52; refine HSUM.out.mono ?_; rintro e w2 ⟨rfl, hb2⟩; have HB2 := Lib.hid hb2; clear hb2))
      have HA2 : Hid (Blk w2 w.heap.size 72 (u8s s).toArray) := jz (HB1.out.keep HB2.out)
      have HW2 : Hid (Below w.heap.size w w2) := jz (bstep HW1.out HB2.out)
      clear HB2 HB1 HW1 HR1 HSUM t2
      go_loopw [7] (fun i wr => ∃ k : Nat, 2 + N ≤ k ∧ k ≤ 56 ∧ wr = w2 ∧ i = .int .i64 (k : Int) ∧ Hid (∀ j, 2 + N ≤ j → j < k → s[j]? = some 0)) (fun i _ => 56 - (intOf i).toNat)
      case atStart => exact ⟨2 + N, Nat.le_refl _, by omega, rfl, congrArg (Value.int .i64) (by omega), jz (fun j h1 h2 => by omega)⟩
      case round =>
        obtain ⟨k, hk1, hk2, rfl, rfl, HZ⟩ := hrel
        rcases Nat.lt_or_ge k 56 with hlt | hge
        · obtain ⟨c, hc, ec⟩ := sec_at HL.out HBY.out k (by omega)
          have kc : wr.cell? ⟨w.heap.size, k, none⟩ = some (.int .u8 (c : Nat)) := by rw [HA2.out.cell k, List.getElem?_toArray]; exact u8s_at ec
          have HEC := Lib.hid ec
          have hi0 : (0 : Int) ≤ k := by omega
          have hi1 : (k : Int) < 56 := by omega
          have hi2 : (k : Int) < 64 := by omega
          clear ec
          rcases Bool.eq_false_or_eq_true ((c : Int) != 0) with t3 | t3
          · have HF : Hid (prs s = none) := jz (by
              unfold prs
              rw [← HNN.out, if_neg (by omega), zeros_not hk1 hlt HEC.out (by simpa using t3)]
              rfl)
            go_wp2_with fail
            go_ret3
            exact ⟨HW2.out, .inl ⟨HF.out, rfl⟩⟩
          · have hz : (c : Int) = 0 := by simpa using t3
            have HZ2 : Hid (∀ j, 2 + N ≤ j → j < k + 1 → s[j]? = some 0) := jz (fun j h1 h2 => by
              rcases Nat.lt_or_ge j k with h | h
              · exact HZ.out j h1 h
              · obtain rfl : j = k := by omega
                rw [HEC.out, hz])
            have t4 : ((c : Int) == 0) = true := by simpa using hz
            clear hz
            go_wp2_with fail
            exact ⟨⟨k + 1, by omega, by omega, by trivial, by go_num, HZ2⟩, by simp [intOf]; omega⟩
        · obtain rfl : k = 56 := by omega
          have HF : Hid (prs s = some (beN ((s.drop 60).take 4), (s.drop 2).take N)) := jz (by
            unfold prs
            rw [← HNN.out, if_neg (by omega), zeros_part HL.out hn54 HZ.out, ← HXX.out, ← HC.out, if_neg (by simp), if_neg (by rw [HXC.out]; simp)])
          have hi1 : ((56 : Nat) : Int) = 56 := rfl
          have hNl : ((s.drop 2).take N).length = N := by rw [List.length_take, List.length_drop, HL.out]; omega
          have HNL := Lib.hid hNl
          obtain ⟨G, hG⟩ : ∃ G, G = beN ((s.drop 60).take 4) := ⟨_, rfl⟩
          have HTG := jz (fun W => ref17_tag s W HL.out HBY.out)
          rw [← hG] at HTG HF
          clear hG hNl HZ t1
          go_upto_region 10 with fail
          obtain ⟨wS, hwS⟩ : ∃ wS, wS = wr.drew := ⟨_, rfl⟩
          have HAS : Hid (∀ W, Below wS.heap.size wS W → Blk W w.heap.size 72 (u8s s).toArray) := jz (fun W hb => (HA2.out.keep (by rw [hwS]; exact (Below.refl _ _).drew)).keep hb)
          have HWS : Hid (Below w.heap.size w wS) := jz (by rw [hwS]; exact HW2.out.drew)
          have HRS : Hid (∀ W, Below wS.heap.size wS W → W.rangeAt w.heap.size 0 (u8s s)) := jz (fun W hb => by have h := (HAS.out W hb).range; rw [List.toList_toArray] at h; exact h)
          have HSS : Hid (∀ W, Below wS.heap.size wS W → Sn W 1 (.slice (some ⟨w.heap.size, 2, none⟩) N 62) N (u8s ((s.drop 2).take N))) := jz (fun W hb => Sn.of_blk (HAS.out W hb) 2 N 62 (by rw [HL.out]; omega) (by omega))
          have HR0 : Hid (Below wS.heap.size wS wS) := jz (Below.refl _ _)
          have hsz : w.heap.size ≤ wS.heap.size := HWS.out.size
          clear HA2 HW2
          refine held_start 10 (fun W => Below wS.heap.size wS W) (by kernel_rfl) (by kernel_rfl) (by rw [← hwS]; exact HR0.out) (fun hHeld => ?_)
          rw [← hwS] at hHeld ⊢
          clear hwS
          refine jL 0 72 (.tmp 1) (some 52) (cs := u8s s) (fun _ hX => HRS.out _ hX) Tryz.underlying72 rfl HUI.out hHeld ?_
          simp only [j1, j2, j3, j4, j5]
          refine jM 3 (.tmp 5) (some 55) (.int .i64 (N : Int)) hHeld ?_
          simp only [j1, j2, j3, j4, j5]
          refine jT 4 (.binOp .add 3 (.const (.int .i64 2)) (.tmp 55) 3) (some 56) (.int .i64 (2 + (N : Int))) (hy := fun o ho wX hX => by unfold execOp; simp only [ho]; go_simp; exact IntWalk.i64_in _ (by omega)) hHeld ?_
          simp only [j1, j2, j3, j4, j5]
          refine jT 5 (.slice 72 (.tmp 1) (some (.const (.int .i64 2))) (some (.tmp 56)) none) (some 57) (.slice (some ⟨w.heap.size, 2, none⟩) N 62) (hy := fun o ho wX hX => by have h2 : ((2 : Int) + N).toNat = 2 + N := (by omega); have h3 : (2 : Int) + N ≤ 64 := (by omega); have h4 : (2 : Int) ≤ 2 + N := (by omega); unfold execOp; simp only [ho]; go_simp) hHeld ?_
          simp only [j1, j2, j3, j4, j5]
          refine jW [1, 2] ?_
          refine jC 1 (.call { callee := .value (.func 92), args := #[.tmp 52], argTypes := #[72] }) (some 53) 92 (#[.agg (u8s s).toArray]) ?_ (jS 2 (.buildSlice 74 0 #[]) (some 54) (.slice (some ⟨wS.heap.size, 0, none⟩) 0 0) (wS.alloc (.cells #[] 5)) (bstep HR0.out (bel1 _ _)) ?_ jN)
          · refine (HTG.out wS).mono ?_
            rintro e wq1 ⟨rfl, hB1⟩
            have HB1 := jz (bstep HR0.out hB1)
            refine ⟨_, rfl, HB1.out, fun hHeld => ?_⟩
            simp only [j1, j2, j3, j4, j5]
            refine jW [2] ?_
            refine jS 2 (.buildSlice 74 0 #[]) (some 54) (.slice (some ⟨wq1.heap.size, 0, none⟩) 0 0) (wq1.alloc (.cells #[] 5)) (bstep HB1.out (bel1 _ _)) ?_ jN
            simp only [j1, j2, j3, j4, j5]
            obtain ⟨wq2, hw2⟩ : ∃ W, W = wq1.alloc (.cells #[] 5) := ⟨_, rfl⟩
            have hB2 : Below wq1.heap.size wq1 wq2 := by rw [hw2]; exact bel1 _ _
            have HB2 := jz (bstep HB1.out hB2)
            have HO2 : Hid (wq2.ownsRow wS.heap.size 5 1 (.slice (some ⟨wq1.heap.size, 0, none⟩) 0 0) 0 []) := jz (by rw [hw2]; exact own_new wq1 #[] 5 1 0 wS.heap.size _ HB1.out.size rfl (by decide) rfl)
            rw [← hw2]
            clear hw2
            have hHeld := HB2.out
            refine jW [6] ?_
            refine rAppR 6 tByt (.tmp 54) (.tmp 57) (some 58) (by kernel_rfl) (by kernel_rfl) (by rfl) HO2.out (by rfl) (HSS.out _ HB2.out) (u8s_mem _) (by unfold maxLen; omega) (by omega) HB2.out.size (fun v3 wq3 hown hgrow _ => ?_) jN
            rw [List.nil_append, Nat.zero_add] at hown
            obtain ⟨a3, c3, hv3, _, _⟩ := own_snD hown
            subst hv3
            have HO3 := Lib.hid hown
            have HB3 : Hid (Below wS.heap.size wS wq3) := jz (HB2.out.grown hgrow HB2.out.size (fun g hg => (HO2.out.lt g hg).1))
            clear hown hgrow
            refine ⟨HB3.out, fun hHeld => ?_⟩
            simp only [j1, j2, j3, j4, j5]
            refine jT 7 (.assign (.tmp 53)) (some 2) (.int .u32 (G : Int)) hHeld ?_
            simp only [j1, j2, j3, j4, j5]
            refine jT 8 (.assign (.tmp 58)) (some 3) (.slice a3 N c3) hHeld ?_
            simp only [j1, j2, j3, j4, j5]
            refine jT 9 (.assign (.const (.bool true))) (some 4) (.bool true) hHeld ?_
            simp only [j1, j2, j3, j4, j5]
            refine wpAnyH_done (by kernel_rfl) ?_ _
            go_wp2_with fail
            go_ret3
            exact ⟨bstep HWS.out HB3.out, .inr ⟨G, (s.drop 2).take N, _, HF.out, rfl, by rw [HNL.out]; exact Sn.own HO3.out⟩⟩
          · simp only [j1, j2, j3, j4, j5]
            obtain ⟨wq4, hw4⟩ : ∃ W, W = wS.alloc (.cells #[] 5) := ⟨_, rfl⟩
            have hB4 : Below wS.heap.size wS wq4 := by rw [hw4]; exact bel1 _ _
            have HB4 := jz (bstep HR0.out hB4)
            have HO4 : Hid (wq4.ownsRow wS.heap.size 5 1 (.slice (some ⟨wS.heap.size, 0, none⟩) 0 0) 0 []) := jz (by rw [hw4]; exact own_new wS #[] 5 1 0 wS.heap.size _ HR0.out.size rfl (by decide) rfl)
            rw [← hw4]
            clear hw4
            have hHeld := HB4.out
            refine jW [1] ?_
            refine jC 1 (.call { callee := .value (.func 92), args := #[.tmp 52], argTypes := #[72] }) (some 53) 92 (#[.agg (u8s s).toArray]) ?_ jN
            refine (HTG.out wq4).mono ?_
            rintro e wq5 ⟨rfl, hB5⟩
            have own_5 := jz (own_below HO4.out hB5)
            have HB5 := jz (bstep HB4.out hB5)
            refine ⟨_, rfl, HB5.out, fun hHeld => ?_⟩
            simp only [j1, j2, j3, j4, j5]
            refine jW [6] ?_
            refine rAppR 6 tByt (.tmp 54) (.tmp 57) (some 58) (by kernel_rfl) (by kernel_rfl) (by rfl) own_5.out (by rfl) (HSS.out _ HB5.out) (u8s_mem _) (by unfold maxLen; omega) (by omega) HB5.out.size (fun v6 wq6 hown hgrow _ => ?_) jN
            rw [List.nil_append, Nat.zero_add] at hown
            obtain ⟨a6, c6, hv6, _, _⟩ := own_snD hown
            subst hv6
            have HO6 := Lib.hid hown
            have HB6 : Hid (Below wS.heap.size wS wq6) := jz (HB5.out.grown hgrow HB5.out.size (fun g hg => (own_5.out.lt g hg).1))
            clear hown hgrow
            refine ⟨HB6.out, fun hHeld => ?_⟩
            simp only [j1, j2, j3, j4, j5]
            refine jT 7 (.assign (.tmp 53)) (some 2) (.int .u32 (G : Int)) hHeld ?_
            simp only [j1, j2, j3, j4, j5]
            refine jT 8 (.assign (.tmp 58)) (some 3) (.slice a6 N c6) hHeld ?_
            simp only [j1, j2, j3, j4, j5]
            refine jT 9 (.assign (.const (.bool true))) (some 4) (.bool true) hHeld ?_
            simp only [j1, j2, j3, j4, j5]
            refine wpAnyH_done (by kernel_rfl) ?_ _
            go_wp2_with fail
            go_ret3
            exact ⟨bstep HWS.out HB6.out, .inr ⟨G, (s.drop 2).take N, _, HF.out, rfl, by rw [HNL.out]; exact Sn.own HO6.out⟩⟩
def U8 (p : List Int) : List UInt8 := p.map fun c => UInt8.ofNat c.toNat
def SBi (p : List Int) : ByteArray := ⟨(U8 p).toArray⟩
theorem U8_length (p : List Int) : (U8 p).length = p.length := by simp [U8]
theorem U8_at {p : List Int} (hb : Bys p) (j : Nat) (hj : j < p.length) : ((U8 p)[j]'(by rw [U8_length]; exact hj)).toNat = (p[j] : Int) := by
 have := hb p[j] (List.getElem_mem hj)
 unfold U8
 rw [List.getElem_map, UInt8.toNat_ofNat']
 omega
theorem U8_inj : ∀ {p q : List Int}, Bys p → Bys q → U8 p = U8 q → p = q
 | [], [], _, _, _ => rfl
 | [], c :: q, _, _, h => by simp [U8] at h
 | c :: p, [], _, _, h => by simp [U8] at h
 | c :: p, e :: q, hp, hq, h => by
  have hc := hp c (by simp)
  have he := hq e (by simp)
  unfold U8 at h
  rw [List.map_cons, List.map_cons, List.cons.injEq] at h
  have h1 := congrArg UInt8.toNat h.1
  rw [UInt8.toNat_ofNat', UInt8.toNat_ofNat'] at h1
  rw [show c = e by omega, U8_inj (fun x h => hp x (by simp [h])) (fun x h => hq x (by simp [h])) h.2]
theorem str_sn {w : World} {p : List Int} {A : Option Addr} {cap : Nat} (h : Sn w 1 (.slice A p.length cap) p.length (u8s p)) (hb : Bys p) : (convert 74 9 (.slice A p.length cap)).run Tryz.prog w = .ok (.string (SBi p)) w := by
 obtain ⟨A', cap', hv, _, _, hx⟩ := h
 injection hv with hA _ _
 subst hA
 cases A with
 | none =>
  have hp : p = [] := by
   rcases Nat.eq_zero_or_pos p.length with h | h
   ·exact List.eq_nil_of_length_eq_zero h
   ·obtain ⟨b, off, e, _⟩ := hx h
    cases e
  subst hp
  rw [run_convert_bytes_nil w 74 5 Tryz.underlying74 Tryz.underlying5 _ _ _ Tryz.underlying9]
  rfl
 | some a =>
  have := run_convert_bytes_back w 74 9 5 a cap (U8 p) Tryz.underlying74 Tryz.underlying5 Tryz.underlying9 (fun j hj => by
   have hj' : j < p.length := by rw [← U8_length]; exact hj
   obtain ⟨b, off, e, hc⟩ := hx (by omega)
   injection e with e
   subst e
   rw [Addr.add_lit, U8_at hb j hj']
   exact hc j _ (by simp [u8s, hj']))
  rw [U8_length] at this
  exact this
set_option maxHeartbeats 1000000 in
theorem ref17_header (s : List Int) (w : World) (hl : s.length = 64) (hb : Bys s) :
  Calls Tryz.prog 90 #[.agg (u8s s).toArray] w fun e w' => Below w.heap.size w w' ∧
   ((prsH s = none ∧ e = .returned (.tuple #[.int .u32 0, .bool false])) ∨ (∃ g, prsH s = some g ∧ e = .returned (.tuple #[.int .u32 g, .bool true]))) := by
 have hul : (u8s s).length = 64 := by rw [u8s_length, hl]
 have hB1 := Blk.new w 72 (u8s s).toArray
 have hr1 := hB1.range
 rw [List.toList_toArray] at hr1
 have HR1 := Lib.hid hr1
 have hb1 : Below w.heap.size w (w.alloc (.cells (u8s s).toArray 72)) := bel1 _ _
 clear hB1 hr1
 go_enter Tryz.func90, Tryz.ntmps90
 go_wp2_with (refine ld 72 _ rfl rfl rfl HR1.out Tryz.underlying72 rfl (by rw [hul]; kernel_rfl) ?_)
 refine (ref17_parse s _ hl hb).mono ?_
 rintro e w2 ⟨hb2, ⟨hn, rfl⟩ | ⟨g, p, v, hp, rfl, hs⟩⟩
 ·have hb20 := bstep hb1 hb2
  have HN : Hid (prsH s = none) := jz (by unfold prsH; rw [hn])
  clear hn
  go_wp2_with fail
  go_ret2
  exact ⟨hb20, .inl ⟨HN.out, rfl⟩⟩
 ·have hb20 := bstep hb1 hb2
  have HP := Lib.hid hp
  have HBP := jz (prs_bys hb hp)
  obtain ⟨A, cap, rfl⟩ := hs.slc
  have hcv := str_sn hs HBP.out
  have HBF := Lib.hid hb20
  obtain ⟨S, hS⟩ : ∃ S, S = SBi p := ⟨_, rfl⟩
  rw [← hS] at hcv
  have HSS := Lib.hid hS
  clear hp hs hb2 hb20 hb1 hS
  by_cases t1 : p = toll
  ·have hs1 : S = ByteArray.mk #[84, 79, 76, 76] := by rw [HSS.out, t1]; rfl
   subst hs1
   have HV : Hid (prsH s = some g) := jz (by unfold prsH; rw [HP.out]; simp only; rw [if_pos t1])
   clear t1
   go_wp2_with fail
   go_ret2
   exact ⟨HBF.out, .inr ⟨g, HV.out, rfl⟩⟩
  ·have hs1 : (S.toList == [84, 79, 76, 76]) = false := by
    rw [HSS.out, ByteArray.toList_eq, beq_eq_false_iff_ne]
    intro e
    have e : U8 p = U8 toll := e
    exact t1 (U8_inj HBP.out toll_bys e)
   have HV : Hid (prsH s = none) := jz (by unfold prsH; rw [HP.out]; simp only; rw [if_neg t1])
   clear t1
   go_wp2_with fail
   go_ret2
   exact ⟨HBF.out, .inl ⟨HV.out, rfl⟩⟩
end Go.Proofs.YtillkpjflcgkeaaGreat
