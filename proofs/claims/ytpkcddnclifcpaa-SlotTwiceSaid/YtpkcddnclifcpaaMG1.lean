/- Parts: Plain: the reference's disk says what the disk says; every operation keeps it. -/
import Derived.Test.YtpkcddnclifcpaaMF26
import Derived.Test.YtpkcddnclifcpaaMF21
import Derived.Test.YtpkcddnclifcpaaMF15
import Derived.Test.YtpkcddnclifcpaaMF8
namespace Go.Proofs.Ytpkcddnclifcpaa
open Go.RowKit
attribute [local irreducible] wpQuiet wpAnyH
set_option linter.unusedSimpArgs false

/-- What a plan says of a step. -/
def planS (l : List PEv) (k : Int) : StA := l.foldl (stF k) (false, false, ([], .slice none 0 0))
structure Rel (d : DiskD) (r : RefD) : Prop where
  sec : d.sec = r.sec
  opn : d.opn = r.opn
  down : d.down = r.down
  st : (d.steps : Int) = r.steps
  fl : ∀ k : Int, r.steps < k → d.fl k = (planS r.plan k).1
  cr : ∀ k : Int, r.steps < k → d.cr k = if (planS r.plan k).2.1 then some (planS r.plan k).2.2.1 else none
theorem Rel.new (n : Nat) : Rel (newD n) (rnewD n) := ⟨rfl, rfl, rfl, rfl, fun _ _ => rfl, fun _ _ => rfl⟩
theorem planS_snoc (l : List PEv) (p : PEv) (k : Int) : planS (l ++ [p]) k = stF k (planS l k) p := by
  unfold planS
  rw [List.foldl_append]
  rfl
section
variable {d : DiskD} {r : RefD}
theorem Rel.nxt (h : Rel d r) : ((d.steps + 1 : Nat) : Int) = r.steps + 1 := by have := h.st; omega
theorem Rel.crS (h : Rel d r) : d.cr ((d.steps + 1 : Nat) : Int) = if (stepF r).2.1 then some (stepF r).2.2.1 else none := by rw [h.nxt]; exact h.cr _ (by omega)
theorem Rel.flS (h : Rel d r) : d.fl ((d.steps + 1 : Nat) : Int) = (stepF r).1 := by rw [h.nxt]; exact h.fl _ (by omega)
theorem Rel.out (h : Rel d r) : outS d = if (stepF r).2.1 then 2 else if (stepF r).1 then 1 else 0 := by
  unfold outS
  rw [h.crS, h.flS]
  cases (stepF r).2.1 <;> rfl
theorem Rel.cuts (h : Rel d r) (h2 : (stepF r).2.1 = true) : cutsS d = (stepF r).2.2.1 := by
  unfold cutsS
  rw [h.crS, h2]
  rfl
theorem Rel.step (h : Rel d r) : Rel (stepped d) (rstep r) where
  sec := h.sec
  opn := h.opn
  down := h.down
  st := h.nxt
  fl := fun k hk => by
    have hk : r.steps + 1 < k := hk
    show (if k = ((d.steps + 1 : Nat) : Int) then false else d.fl k) = _
    rw [if_neg (by rw [h.nxt]; omega)]
    exact h.fl k (by omega)
  cr := fun k hk => by
    have hk : r.steps + 1 < k := hk
    show (if k = ((d.steps + 1 : Nat) : Int) then none else d.cr k) = _
    rw [if_neg (by rw [h.nxt]; omega)]
    exact h.cr k (by omega)
theorem Rel.has (h : Rel d r) (a : Int) : hasB d a = rhas r a := by unfold hasB rhas; rw [h.sec]
theorem Rel.add (h : Rel d r) (a : Int) (s : List Int) : Rel (addIf d a s) (radd r a s) := by
  unfold addIf radd
  rw [h.has]
  split
  · exact ⟨h.sec, by show d.opn ++ [(a, s)] = r.opn ++ [(a, s)]; rw [h.opn], h.down, h.st, h.fl, h.cr⟩
  · exact h
theorem Rel.crash (h : Rel d r) (cl : List Int) : Rel (crashD d cl) (rcrashD r cl) :=
  ⟨by show crashL d.sec d.opn cl = crashL r.sec r.opn cl; rw [h.sec, h.opn], rfl, rfl, h.st, h.fl, h.cr⟩
theorem Rel.clean (h : Rel d r) : Rel (syncD d) (rcleanD r) :=
  ⟨by show syncN d.sec d.opn d.opn.length = syncN r.sec r.opn r.opn.length; rw [h.sec, h.opn], rfl, h.down, h.st, h.fl, h.cr⟩
theorem Rel.start (h : Rel d r) : Rel (startD d) { r with down := false } := ⟨h.sec, h.opn, rfl, h.st, h.fl, h.cr⟩
theorem Rel.write (h : Rel d r) (a : Int) (s : List Int) : Rel (writeD d a s) (rwriteD r a s) := by
  unfold writeD rwriteD
  rw [h.down, h.out]
  cases hd : r.down with
  | true => exact h
  | false =>
    cases h2 : (stepF r).2.1 with
    | true =>
      have := (h.step.add a s).crash (stepF r).2.2.1
      rw [← h.cuts h2] at this
      rw [← h.cuts h2]
      exact this
    | false =>
      cases h1 : (stepF r).1 with
      | true => exact h.step
      | false => exact h.step.add a s
theorem Rel.writeA (h : Rel d r) (a : Int) : codeA (writeA d a) = rwriteA r a ∧ (writeA d a = none ↔ rwriteA r a = 0) := by
  unfold Go.Proofs.Ytpkcddnclifcpaa.writeA rwriteA
  rw [h.down, h.out, h.has]
  cases r.down <;> cases (stepF r).2.1 <;> cases (stepF r).1 <;> cases rhas r a <;> simp [codeA]
theorem Rel.sync (h : Rel d r) : Rel (syncS d) (rsyncD r) := by
  unfold syncS rsyncD
  rw [h.down, h.out]
  cases hd : r.down with
  | true => exact h
  | false =>
    cases h2 : (stepF r).2.1 with
    | true =>
      have := h.step.crash (stepF r).2.2.1
      rw [← h.cuts h2] at this
      rw [← h.cuts h2]
      exact this
    | false =>
      cases h1 : (stepF r).1 with
      | true => exact h.step
      | false => exact h.step.clean
theorem Rel.syncA (h : Rel d r) : codeA (syncA d) = rsyncA r ∧ (syncA d = none ↔ rsyncA r = 0) := by
  unfold Go.Proofs.Ytpkcddnclifcpaa.syncA rsyncA
  rw [h.down, h.out]
  cases r.down <;> cases (stepF r).2.1 <;> cases (stepF r).1 <;> simp [codeA]
theorem Rel.ws (h : Rel d r) (a : Int) (s : List Int) : Rel (wsD d a s) (rwsD r a s) := by
  unfold wsD rwsD
  have hw := h.writeA a
  cases ha : Go.Proofs.Ytpkcddnclifcpaa.writeA d a with
  | none => rw [if_pos (hw.2.1 ha)]; exact (h.write a s).sync
  | some x => rw [if_neg (fun e => by have := hw.2.2 e; rw [ha] at this; cases this)]; exact h.write a s
theorem Rel.wsA (h : Rel d r) (a : Int) (s : List Int) : codeA (wsA d a s) = rwsA r a s ∧ (wsA d a s = none ↔ rwsA r a s = 0) := by
  unfold Go.Proofs.Ytpkcddnclifcpaa.wsA rwsA
  have hw := h.writeA a
  cases ha : Go.Proofs.Ytpkcddnclifcpaa.writeA d a with
  | none => rw [if_pos (hw.2.1 ha)]; exact (h.write a s).syncA
  | some x =>
    rw [if_neg (fun e => by have := hw.2.2 e; rw [ha] at this; cases this)]
    rw [ha] at hw
    exact hw
theorem room_lt (z p : Int) (hp : ¬ p < 1) : room z < p ↔ z ≤ p := by
  unfold room
  split <;> omega
theorem Rel.put (h : Rel d r) (f z p : Int) (g : Nat) (q : Ent2) : Rel (putD d f z p g q) (rputD r f z p g q) := by
  unfold putD rputD
  by_cases hp : p < 1
  · rw [if_pos hp, if_pos hp]; exact h
  · rw [if_neg hp, if_neg hp]
    have hz := room_lt z p hp
    by_cases h2 : z ≤ p
    · rw [if_pos h2, if_pos (hz.2 h2)]; exact h
    · rw [if_neg h2, if_neg (fun e => h2 (hz.1 e))]
      split
      · exact h.ws _ _
      · exact h
theorem Rel.putA (h : Rel d r) (f z p : Int) (g : Nat) (q : Ent2) : codeA (putA d f z p g q) = rputA r f z p g q ∧ (putA d f z p g q = none ↔ rputA r f z p g q = 0) := by
  unfold Go.Proofs.Ytpkcddnclifcpaa.putA rputA
  by_cases hp : p < 1
  · rw [if_pos hp, if_pos hp]; exact ⟨rfl, by simp⟩
  · rw [if_neg hp, if_neg hp]
    have hz := room_lt z p hp
    by_cases h2 : z ≤ p
    · rw [if_pos h2, if_pos (hz.2 h2)]; exact ⟨rfl, by simp⟩
    · rw [if_neg h2, if_neg (fun e => h2 (hz.1 e))]
      split
      · exact h.wsA _ _
      · exact ⟨rfl, by simp⟩
end
theorem Rel.fillW : ∀ (L : List (List Int)) {d : DiskD} {r : RefD} (_ : Rel d r) (a : Int), Rel (fillW d a L).2 (rfillW r a L).1 ∧ codeA (fillW d a L).1 = (rfillW r a L).2 ∧ ((fillW d a L).1 = none ↔ (rfillW r a L).2 = 0)
  | [], d, r, h, a => ⟨h.sync, h.syncA⟩
  | s :: L, d, r, h, a => by
    unfold Go.Proofs.Ytpkcddnclifcpaa.fillW rfillW
    have hw := h.writeA a
    cases ha : Go.Proofs.Ytpkcddnclifcpaa.writeA d a with
    | none => rw [if_pos (hw.2.1 ha)]; exact Rel.fillW L (h.write a s) (a + 1)
    | some x =>
      rw [if_neg (fun e => by have := hw.2.2 e; rw [ha] at this; cases this)]
      rw [ha] at hw
      exact ⟨h.write a s, hw⟩
theorem room_max (z : Int) (n : Nat) : room z < n ↔ max (z - 1) 0 < (n : Int) := by
  unfold room
  split <;> omega
theorem Rel.fill {d : DiskD} {r : RefD} (h : Rel d r) (f z : Int) (g : Nat) (l : List Ent2) : Rel (fillR d f z g l).2 (rfillD r f z g l).1 ∧ codeA (fillR d f z g l).1 = (rfillD r f z g l).2 ∧ ((fillR d f z g l).1 = none ↔ (rfillD r f z g l).2 = 0) := by
  unfold fillR rfillD
  have hz := room_max z l.length
  by_cases h2 : max (z - 1) 0 < (l.length : Int)
  · rw [if_pos h2, if_pos (hz.2 h2)]; exact ⟨h, rfl, by simp⟩
  · rw [if_neg h2, if_neg (fun e => h2 (hz.1 e))]
    split
    · exact Rel.fillW _ h _
    · exact ⟨h, rfl, by simp⟩
theorem Rel.planF {d : DiskD} {r : RefD} (h : Rel d r) (n : Int) (cl : List Int) (v : Value) : Rel (planF d n) (rplanD r n false cl v) := by
  unfold Go.Proofs.Ytpkcddnclifcpaa.planF rplanD
  split
  · exact h
  · refine ⟨h.sec, h.opn, h.down, h.st, fun k hk => ?_, fun k hk => ?_⟩
    · have hk : r.steps < k := hk
      show (if k = (d.steps : Int) + n then true else d.fl k) = (planS (r.plan ++ [_]) k).1
      rw [planS_snoc, h.st]
      unfold stF
      by_cases e : k = r.steps + n
      · rw [if_pos e, if_pos e.symm]; rfl
      · rw [if_neg e, if_neg (fun e2 => e e2.symm)]; exact h.fl k hk
    · have hk : r.steps < k := hk
      show d.cr k = if (planS (r.plan ++ [_]) k).2.1 then some (planS (r.plan ++ [_]) k).2.2.1 else none
      rw [planS_snoc]
      by_cases e : k = r.steps + n
      · rw [show stF k (planS r.plan k) ⟨r.steps + n, false, cl, v⟩ = (true, (planS r.plan k).2.1, (planS r.plan k).2.2) from if_pos e.symm]; exact h.cr k hk
      · rw [show stF k (planS r.plan k) ⟨r.steps + n, false, cl, v⟩ = planS r.plan k from if_neg (fun e2 => e e2.symm)]; exact h.cr k hk
theorem Rel.planC {d : DiskD} {r : RefD} (h : Rel d r) (n : Int) (cl : List Int) (v : Value) : Rel (planC d n cl) (rplanD r n true cl v) := by
  unfold Go.Proofs.Ytpkcddnclifcpaa.planC rplanD
  split
  · exact h
  · refine ⟨h.sec, h.opn, h.down, h.st, fun k hk => ?_, fun k hk => ?_⟩
    · have hk : r.steps < k := hk
      show d.fl k = (planS (r.plan ++ [_]) k).1
      rw [planS_snoc]
      unfold stF
      by_cases e : k = r.steps + n
      · rw [if_pos e.symm]; exact h.fl k hk
      · rw [if_neg (fun e2 => e e2.symm)]; exact h.fl k hk
    · have hk : r.steps < k := hk
      show (if k = (d.steps : Int) + n then some cl else d.cr k) = if (planS (r.plan ++ [_]) k).2.1 then some (planS (r.plan ++ [_]) k).2.2.1 else none
      rw [planS_snoc, h.st]
      unfold stF
      by_cases e : k = r.steps + n
      · rw [if_pos e, if_pos e.symm]; rfl
      · rw [if_neg e, show (if (⟨r.steps + n, true, cl, v⟩ : PEv).step = k then _ else planS r.plan k) = planS r.plan k from if_neg (fun e2 => e e2.symm)]; exact h.cr k hk

/-- What the reference reads. -/
def rdR (r : RefD) (a : Int) : List Int := if r.down then zsec else if rhas r a then (((r.opn.filter (fun p => p.1 == a)).getLast?).map (·.2)).getD (r.sec.getD a.toNat []) else zsec
theorem Rel.rd {d : DiskD} {r : RefD} (h : Rel d r) (a : Int) : rdS d a = rdR r a := by
  unfold rdS rdR
  rw [h.down, h.has]
  unfold rdD
  rw [h.opn, h.sec]
/-- The sectors from a place on. -/
def rsecs (r : RefD) (a : Int) : Nat → List (List Int)
  | 0 => []
  | n + 1 => rdR r a :: rsecs r (a + 1) n
theorem Rel.secs {d : DiskD} {r : RefD} (h : Rel d r) (hd : r.down = false) : ∀ (n : Nat) (a : Int), 0 ≤ a → a.toNat + n ≤ r.sec.length → secsL d a n = (rsecs r a n).map (fun s => (s, none))
  | 0, a, _, _ => rfl
  | n + 1, a, h0, hl => by
    have hh : hasB d a = true := by unfold hasB; rw [h.sec]; simp; omega
    have e1 : rdA d a = none := by unfold rdA; rw [h.down, hd, hh]; rfl
    rw [secsL, e1, if_pos rfl, h.rd, Rel.secs h hd n (a + 1) (by omega) (by omega)]
    rfl
/-- The scan of a slot of a disk that is not down. -/
theorem Rel.scan {d : DiskD} {r : RefD} (h : Rel d r) (hd : r.down = false) (n : Nat) (a : Int) (h0 : 0 ≤ a) (hl : a.toNat + n ≤ r.sec.length) : scanR (none, []) (secsL d a n) = (scanL (none, []) (rsecs r a n), none) := by
  rw [h.secs hd n a h0 hl, scan_still]
theorem scan_down {d : DiskD} (hd : d.down = true) (n : Nat) (a : Int) : scanR (none, []) (secsL d a (n + 1)) = ((none, []), some (12, none)) := by
  have e1 : rdA d a = some (12, none) := by unfold rdA; rw [hd]; rfl
  rw [secsL, e1]
  rfl
end Go.Proofs.Ytpkcddnclifcpaa
