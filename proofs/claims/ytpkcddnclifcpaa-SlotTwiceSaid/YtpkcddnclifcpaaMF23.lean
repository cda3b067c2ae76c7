/- Parts: Plain: bounds that play keeps; what a fill and a commit that succeed leave. | '==' of entries, for a seat without maps of digests. | tollref18.Same (seat slot): it compares two lists of entries. | slot.Halves. -/
import Derived.Test.YtpkcddnclifcpaaMF22
import Derived.Test.YtpkcddnclifcpaaMF18
import Derived.Test.YtpkcddnclifcpaaMF1
import Derived.DeepKeys
import Derived.Deep.MidRow
import Derived.WideKeyArr
import Derived.DeepKeys2
import Derived.Test.YtpkcddnclifcpaaMF6
import Derived.Test.YtpkcddnclifcpaaMF8
namespace Go.Proofs.Ytpkcddnclifcpaa
open Go.RowKit
attribute [local irreducible] wpQuiet wpAnyH
set_option linter.unusedSimpArgs false

/-- A disk's bounds behind an operation that costs c. -/
def Bd (c : Nat) (d d' : DiskD) : Prop := d'.steps ≤ d'.room ∧ d'.room ≤ d.room + c ∧ d'.sec.length = d.sec.length
theorem Bd.mono {c c' : Nat} {d d' : DiskD} (h : Bd c d d') (hc : c ≤ c') : Bd c' d d' := ⟨h.1, by have := h.2.1; omega, h.2.2⟩
theorem Bd.trans {a b : Nat} {d d' d'' : DiskD} (h : Bd a d d') (k : Bd b d' d'') : Bd (a + b) d d'' := ⟨k.1, by have := h.2.1; have := k.2.1; omega, k.2.2.trans h.2.2⟩
theorem stepped_bd {d : DiskD} (h : d.steps ≤ d.room) : Bd 1 d (stepped d) := ⟨by show d.steps + 1 ≤ max d.room (d.steps + 1); omega, by show max d.room (d.steps + 1) ≤ d.room + 1; omega, rfl⟩
theorem addIf_bd {d : DiskD} (h : d.steps ≤ d.room) (a : Int) (s : List Int) : Bd 1 d (addIf d a s) := by
  unfold addIf
  split
  · exact ⟨by show d.steps ≤ d.room + 1; omega, Nat.le_refl _, rfl⟩
  · exact ⟨h, by omega, rfl⟩
theorem crashD_bd {d : DiskD} (h : d.steps ≤ d.room) (cl : List Int) : Bd 0 d (crashD d cl) := ⟨h, Nat.le_refl _, crashL_len _ _ _⟩
theorem writeD_bd {d : DiskD} (h : d.steps ≤ d.room) (a : Int) (s : List Int) : Bd 2 d (writeD d a s) := by
  have h1 := stepped_bd h
  have h2 := h1.trans (addIf_bd h1.1 a s)
  unfold writeD
  split
  · exact ⟨h, by omega, rfl⟩
  · split
    · exact h2.trans (crashD_bd h2.1 _)
    · split
      · exact h1.mono (by omega)
      · exact h2
theorem syncS_bd {d : DiskD} (h : d.steps ≤ d.room) : Bd 1 d (syncS d) := by
  have h1 := stepped_bd h
  unfold syncS
  split
  · exact ⟨h, by omega, rfl⟩
  · split
    · exact h1.trans (crashD_bd h1.1 _)
    · split
      · exact h1
      · exact ⟨h1.1, h1.2.1, syncN_len _ _ _⟩
theorem wsD_bd {d : DiskD} (h : d.steps ≤ d.room) (a : Int) (s : List Int) : Bd 3 d (wsD d a s) := by
  have h1 := writeD_bd h a s
  unfold wsD
  split
  · exact h1.mono (by omega)
  · exact h1.trans (syncS_bd h1.1)
theorem fillW_bd : ∀ (L : List (List Int)) (d : DiskD) (a : Int), d.steps ≤ d.room → Bd (2 * L.length + 1) d (fillW d a L).2
  | [], d, a, h => (syncS_bd h).mono (by simp)
  | s :: L, d, a, h => by
    have h1 := writeD_bd h a s
    unfold fillW
    split
    · exact h1.mono (by simp; omega)
    · exact (h1.trans (fillW_bd L _ _ h1.1)).mono (by simp; omega)
theorem fillR_bd {d : DiskD} (h : d.steps ≤ d.room) (f z : Int) (g : Nat) (l : List Ent2) : Bd (2 * l.length + 1) d (fillR d f z g l).2 := by
  unfold fillR
  split
  · exact ⟨h, by simp, rfl⟩
  · split
    · exact (fillW_bd _ _ _ h).mono (by simp)
    · exact ⟨h, by simp, rfl⟩
theorem playD_bd {d : DiskD} (h : d.steps ≤ d.room) {o : Op18} (hm : o.more.length ≤ 20) : Bd 41 d (playD d o) := by
  have hz : Bd 41 d d := ⟨h, by omega, rfl⟩
  unfold playD
  split
  · unfold putD
    split
    · exact hz
    · split
      · exact hz
      · split
        · exact (wsD_bd h _ _).mono (by omega)
        · exact hz
  split
  · exact (fillR_bd h _ _ _ _).mono (by omega)
  split
  · exact (wsD_bd h _ _).mono (by omega)
  split
  · exact (writeD_bd h _ _).mono (by omega)
  split
  · unfold planF
    split
    · exact hz
    · exact ⟨by show d.steps ≤ d.room + 1; omega, by show d.room + 1 ≤ d.room + 41; omega, rfl⟩
  split
  · unfold planC
    split
    · exact hz
    · exact ⟨by show d.steps ≤ d.room + 1; omega, by show d.room + 1 ≤ d.room + 41; omega, rfl⟩
  split
  · exact (crashD_bd h _).mono (by omega)
  · exact hz

def Rb (c : Nat) (r r' : RefD) : Prop := r'.steps ≤ r.steps + c ∧ r'.opn.length ≤ r.opn.length + c ∧ r'.plan.length ≤ r.plan.length + c
theorem Rb.mono {c c' : Nat} {r r' : RefD} (h : Rb c r r') (hc : c ≤ c') : Rb c' r r' := ⟨by have := h.1; omega, by have := h.2.1; omega, by have := h.2.2; omega⟩
theorem Rb.trans {a b : Nat} {r r' r'' : RefD} (h : Rb a r r') (k : Rb b r' r'') : Rb (a + b) r r'' := ⟨by have := h.1; have := k.1; omega, by have := h.2.1; have := k.2.1; omega, by have := h.2.2; have := k.2.2; omega⟩
theorem Rb.refl (r : RefD) : Rb 0 r r := ⟨by omega, by omega, by omega⟩
theorem rstep_b (r : RefD) : Rb 1 r (rstep r) := ⟨by show r.steps + 1 ≤ _; omega, by show r.opn.length ≤ _; omega, by show r.plan.length ≤ _; omega⟩
theorem radd_b (r : RefD) (a : Int) (s : List Int) : Rb 1 r (radd r a s) := by
  unfold radd
  split
  · exact ⟨by show r.steps ≤ _; omega, by show (r.opn ++ [_]).length ≤ _; simp, by show r.plan.length ≤ _; omega⟩
  · exact (Rb.refl r).mono (by omega)
theorem rcrash_b (r : RefD) (cl : List Int) : Rb 0 r (rcrashD r cl) := ⟨by show r.steps ≤ _; omega, by show 0 ≤ _; omega, by show r.plan.length ≤ _; omega⟩
theorem rwrite_b (r : RefD) (a : Int) (s : List Int) : Rb 2 r (rwriteD r a s) := by
  unfold rwriteD
  split
  · exact (Rb.refl r).mono (by omega)
  · split
    · exact ((rstep_b r).trans (radd_b _ a s)).trans (rcrash_b _ _)
    · split
      · exact (rstep_b r).mono (by omega)
      · exact (rstep_b r).trans (radd_b _ a s)
theorem rsync_b (r : RefD) : Rb 1 r (rsyncD r) := by
  unfold rsyncD
  split
  · exact (Rb.refl r).mono (by omega)
  · split
    · exact (rstep_b r).trans (rcrash_b _ _)
    · split
      · exact rstep_b r
      · exact ⟨(rstep_b r).1, by show 0 ≤ _; omega, (rstep_b r).2.2⟩
theorem rws_b (r : RefD) (a : Int) (s : List Int) : Rb 3 r (rwsD r a s) := by
  unfold rwsD
  split
  · exact (rwrite_b r a s).trans (rsync_b _)
  · exact (rwrite_b r a s).mono (by omega)
theorem rfillW_b : ∀ (L : List (List Int)) (r : RefD) (a : Int), Rb (2 * L.length + 1) r (rfillW r a L).1
  | [], r, a => (rsync_b r).mono (by simp)
  | s :: L, r, a => by
    have h1 := rwrite_b r a s
    unfold rfillW
    split
    · exact (h1.trans (rfillW_b L _ _)).mono (by simp; omega)
    · exact h1.mono (by simp; omega)
theorem rfill_b (r : RefD) (f z : Int) (g : Nat) (l : List Ent2) : Rb (2 * l.length + 1) r (rfillD r f z g l).1 := by
  unfold rfillD
  split
  · exact (Rb.refl r).mono (by omega)
  · split
    · exact (rfillW_b _ _ _).mono (by simp)
    · exact (Rb.refl r).mono (by omega)
theorem rplan_b (r : RefD) (n : Int) (c : Bool) (cl : List Int) (v : Value) : Rb 1 r (rplanD r n c cl v) := by
  unfold rplanD
  split
  · exact (Rb.refl r).mono (by omega)
  · exact ⟨by show r.steps ≤ _; omega, by show r.opn.length ≤ _; omega, by show (r.plan ++ [_]).length ≤ _; simp⟩
theorem playR_b (r : RefD) {o : Op18} (hm : o.more.length ≤ 20) (v : Value) : Rb 41 r (playR r o v) := by
  have hz : Rb 41 r r := (Rb.refl r).mono (by omega)
  unfold playR
  split
  · unfold rputD
    split
    · exact hz
    · split
      · exact hz
      · split
        · exact (rws_b _ _ _).mono (by omega)
        · exact hz
  split
  · exact (rfill_b _ _ _ _ _).mono (by omega)
  split
  · exact (rws_b _ _ _).mono (by omega)
  split
  · exact (rwrite_b _ _ _).mono (by omega)
  split
  · exact (rplan_b _ _ _ _ _).mono (by omega)
  split
  · exact (rplan_b _ _ _ _ _).mono (by omega)
  split
  · exact (rcrash_b _ _).mono (by omega)
  · exact hz

/-- A fill that succeeds. -/
theorem writeA_none {d : DiskD} {a : Int} (h : writeA d a = none) (s : List Int) : d.down = false ∧ hasB d a = true ∧ writeD d a s = addD (stepped d) a s := by
  unfold writeA at h
  cases hd : d.down with
  | true => rw [hd] at h; cases h
  | false =>
    rw [hd] at h
    simp only [Bool.false_eq_true, if_false] at h
    split at h
    · cases h
    · rename_i h2
      split at h
      · cases h
      · rename_i h1
        split at h
        · rename_i hb
          refine ⟨rfl, hb, ?_⟩
          unfold writeD
          rw [hd, if_neg h2, if_neg h1]
          unfold addIf
          rw [show hasB (stepped d) a = hasB d a from rfl, hb]
          rfl
        · cases h
theorem syncA_none {d : DiskD} (h : syncA d = none) : d.down = false ∧ syncS d = syncD (stepped d) := by
  unfold syncA at h
  cases hd : d.down with
  | true => rw [hd] at h; cases h
  | false =>
    rw [hd] at h
    simp only [Bool.false_eq_true, if_false] at h
    split at h
    · cases h
    · rename_i h2
      split at h
      · cases h
      · rename_i h1
        refine ⟨rfl, ?_⟩
        unfold syncS
        rw [hd, if_neg h2, if_neg h1]
        rfl
theorem fillW_none : ∀ (L : List (List Int)) (d d' : DiskD) (a : Int), fillW d a L = (none, d') → d'.down = false ∧ d'.opn = [] ∧ d'.sec = setAll d.sec (d.opn ++ wrs a L)
  | [], d, d', a, h => by
    unfold fillW at h
    injection h with h1 h2
    obtain ⟨hd, hs⟩ := syncA_none h1
    rw [← h2, hs, wrs, List.append_nil]
    exact ⟨hd, rfl, sync_all _ _⟩
  | s :: L, d, d', a, h => by
    unfold fillW at h
    split at h
    · cases h
    · rename_i hw
      obtain ⟨hd, _, hW⟩ := writeA_none hw s
      obtain ⟨h1, h2, h3⟩ := fillW_none L _ d' _ h
      refine ⟨h1, h2, ?_⟩
      rw [h3, hW, wrs]
      show setAll d.sec (d.opn ++ [(a, s)] ++ wrs (a + 1) L) = _
      rw [List.append_assoc]
      rfl
theorem wsA_none {d : DiskD} {a : Int} {s : List Int} (h : wsA d a s = none) : (wsD d a s).down = false ∧ (wsD d a s).opn = [] ∧ (wsD d a s).sec = setAll d.sec (d.opn ++ [(a, s)]) := by
  unfold wsA at h
  unfold wsD
  split at h
  · cases h
  · rename_i hw
    obtain ⟨hd, _, hW⟩ := writeA_none hw s
    obtain ⟨h1, h2⟩ := syncA_none h
    show (syncS (writeD d a s)).down = _ ∧ (syncS (writeD d a s)).opn = _ ∧ (syncS (writeD d a s)).sec = _
    rw [h2, hW]
    exact ⟨hd, rfl, sync_all _ _⟩

/-- P18.2, P18.3, P18.5. -/
theorem fills_vals (d d1 : DiskD) (F : Int) (hF : F = 0 ∨ F = 5) (g : Nat) (hg : g < 4294967296) (es : List Ent2) (hes : ∀ q ∈ es, EntOk q) (hs : d.sec.length = 10) (hl : es.length ≤ 4) (h1 : fillR d F 5 g es = (none, d1)) (h2 : wsA d1 F (rec g toll) = none) :
    ∃ more, scanR (none, []) (secsL (startD (crashD (wsD d1 F (rec g toll)) [])) F (5 : Nat)) = ((some g, es ++ more), none) ∧ (es ++ more).length ≤ 4 := by
  have hr : ∀ q ∈ es, rightE q = true ∧ fillW d (F + 1) (es.map (entRec g)) = (none, d1) := fun q hq => by
    unfold fillR at h1
    split at h1
    · cases h1
    · split at h1
      · rename_i ha
        exact ⟨List.all_eq_true.1 ha q hq, h1⟩
      · cases h1
  have hf : fillW d (F + 1) (es.map (entRec g)) = (none, d1) := by
    unfold fillR at h1
    split at h1
    · cases h1
    · split at h1
      · exact h1
      · cases h1
  obtain ⟨_, f2, f3⟩ := fillW_none _ _ _ _ hf
  obtain ⟨_, c2, c3⟩ := wsA_none h2
  obtain ⟨d2, hd2⟩ : ∃ d2, d2 = wsD d1 F (rec g toll) := ⟨_, rfl⟩
  rw [← hd2] at c2 c3 ⊢
  rw [f2, f3, List.nil_append, setAll_append] at c3
  obtain ⟨B, hB⟩ : ∃ B, B = setAll d.sec d.opn := ⟨_, rfl⟩
  have hBl : B.length = 10 := by rw [hB, setAll_length, hs]
  rw [← hB] at c3
  obtain ⟨f, hf2, hf5⟩ : ∃ f : Nat, F = f ∧ f ≤ 5 := by rcases hF with rfl | rfl <;> exact ⟨_, rfl, by decide⟩
  subst hf2
  have hn : ((f : Int) + 1).toNat = f + 1 := by omega
  rw [set_run _ _ _ (by omega) (by rw [hn, List.length_map, hBl]; omega), hn, List.length_map] at c3
  obtain ⟨R, hR⟩ : ∃ R, R = B.drop (f + 1 + es.length) := ⟨_, rfl⟩
  have hRl : R.length = 9 - f - es.length := by rw [hR, List.length_drop, hBl]; omega
  have hsec : d2.sec = B.take f ++ rec g toll :: (es.map (entRec g) ++ R) := by
    rw [c3, ← hR]
    show ((B.take (f + 1) ++ es.map (entRec g) ++ R).set ((f : Int).toNat) (rec g toll)) = _
    have hlt : f < B.length := by omega
    rw [Int.toNat_natCast, List.take_succ_eq_append_getElem hlt, List.append_assoc, List.append_assoc, List.set_append_right _ _ (by simp; omega)]
    simp only [List.length_take, Nat.min_eq_left (Nat.le_of_lt hlt), Nat.sub_self, List.singleton_append, List.set_cons_zero]
  have hl4 : (startD (crashD d2 [])).sec = d2.sec := by
    show crashL d2.sec d2.opn [] = _
    rw [c2]
    unfold crashL
    rfl
  have hl10 : d2.sec.length = 10 := by rw [hsec, List.length_append, List.length_take, List.length_cons, List.length_append, List.length_map, hRl, hBl]; omega
  rw [secs_still (d := startD (crashD d2 [])) rfl rfl 5 (f : Int) (by omega) (by rw [hl4, hl10]; omega), scan_still, hl4, hsec, Int.toNat_natCast, List.drop_left' (by rw [List.length_take, hBl]; omega), List.take_succ_cons, scan_head g hg]
  rw [List.take_append, List.length_map, List.take_of_length_le (by rw [List.length_map]; omega), scan_ents g hg es [] _ (fun q hq => ⟨hes q hq, (hr q hq).1⟩), List.nil_append]
  obtain ⟨more, hm, hml⟩ := scan_longer g (R.take (4 - es.length)) es
  exact ⟨more, by rw [hm], by rw [List.length_append]; rw [List.length_take] at hml; omega⟩
end Go.Proofs.Ytpkcddnclifcpaa
namespace Go.Proofs.Ytpkcddnclifcpaa
open Go.RowKit

theorem mapM_of {α β : Type} {f : α → Option β} {g : α → β} : ∀ {L : List α}, (∀ x ∈ L, f x = some (g x)) → L.mapM f = some (L.map g)
  | [], _ => rfl
  | x :: L, h => by
    rw [List.mapM_cons, h x (by simp), mapM_of (fun y hy => h y (by simp [hy]))]
    rfl
theorem lits_u8 (D : Nat) (n : Int) (h : 0 ≤ n ∧ n ≤ 255) : Try.prog.keyLits (D + 1) 5 [.int .u8 n] = some [.int .u8 n] := by
  unfold Program.keyLits
  rw [Try.underlying5]
  have : (Lit.int .u8 n).wf = true := by simp [Lit.wf, IntKind.min, IntKind.max, IntKind.signed, IntKind.bits]; omega
  simp [this]
theorem lits_dig (D : Nat) {d : List Int} (h : DigOk d) : Try.prog.keyLits (D + 2) 24 (u8s d) = some (d.map (Lit.int .u8)) := by
  have hc : Try.prog.cellsOf 24 = 32 := by kernel_rfl
  have hc1 : Try.prog.cellsOf 5 = 1 := by kernel_rfl
  have hl : (u8s d).length = 32 := by simp [u8s, h.len]
  unfold Program.keyLits
  rw [Try.underlying24]
  simp only [hc, hl, hc1, if_true, Nat.mul_one]
  rw [mapM_of (g := fun i => [Lit.int .u8 (d.getD i 0)]) (fun i hi => ?_)]
  · simp only [Option.map_some, Option.some.injEq]
    have hfl : ((List.range 32).map fun i => [Lit.int .u8 (d.getD i 0)]).flatten = (List.range 32).map fun i => Lit.int .u8 (d.getD i 0) := by
      rw [← List.flatMap_def, ← List.map_eq_flatMap]
    rw [hfl]
    apply List.ext_getElem
    · simp [h.len]
    · intro i h1 h2
      have hi : i < 32 := by simpa [h.len] using h2
      simp [show i < d.length by rw [h.len]; exact hi]
  · have hi : i < 32 := by simpa using hi
    have hlt : i < d.length := by rw [h.len]; exact hi
    have e : ((u8s d).drop i).take 1 = [.int .u8 (d.getD i 0)] := by
      have hlt' : i < (u8s d).length := by rw [hl]; exact hi
      rw [List.drop_eq_getElem_cons hlt']
      simp [u8s, hlt]
    rw [e]
    exact lits_u8 D _ (h.byte _ (by simp [hlt]))
theorem lits_ent {p : List Int × Int} (hp : EntOk p) : Try.prog.keyLits 3 26 (entP p) = some (p.1.map (Lit.int .u8) ++ [Lit.int .i64 p.2]) := by
  have hc : Try.prog.cellsOf 26 = 33 := by kernel_rfl
  have hc1 : Try.prog.cellsOf 24 = 32 := by kernel_rfl
  have hc2 : Try.prog.cellsOf 2 = 1 := by kernel_rfl
  have hl := entP_length p hp
  have h32 : (u8s p.1).length = 32 := by simp [u8s, hp.dig.len]
  have e1 : (entP p).take 32 = u8s p.1 := by unfold entP entC; rw [List.take_append_of_le_length (by omega), List.take_of_length_le (by omega)]
  have e2 : ((entP p).drop 32).take 1 = [.int .i64 p.2] := by unfold entP entC; rw [List.drop_append_of_le_length (by omega), List.drop_of_length_le (by omega)]; rfl
  have k2 : Try.prog.keyLits 2 2 [.int .i64 p.2] = some [Lit.int .i64 p.2] := by
    unfold Program.keyLits
    rw [Try.underlying2]
    simp [wf_i64 hp.exp]
  unfold Program.keyLits
  rw [Try.underlying26]
  simp [hc, hl, hc1, hc2, e1, e2, lits_dig 0 hp.dig, k2]
theorem lits_inj {p q : List Int × Int} (h : p.1.map (Lit.int .u8) ++ [Lit.int .i64 p.2] = q.1.map (Lit.int .u8) ++ [Lit.int .i64 q.2]) : p = q := by
  have h1 := List.append_inj' h rfl
  have h2 : p.1 = q.1 := by
    have key : ∀ a b : List Int, a.map (Lit.int .u8) = b.map (Lit.int .u8) → a = b := by
      intro a
      induction a with
      | nil => intro b hb; cases b with
        | nil => rfl
        | cons => simp at hb
      | cons x a ih => intro b hb; cases b with
        | nil => simp at hb
        | cons y b =>
          simp only [List.map_cons, List.cons.injEq, Lit.int.injEq, true_and] at hb
          rw [hb.1, ih b hb.2]
    exact key _ _ h1.1
  have h3 : p.2 = q.2 := by simpa using h1.2
  exact Prod.ext h2 h3
set_option maxRecDepth 100000 in
theorem run_eqE {p q : List Int × Int} (hp : EntOk p) (hq : EntOk q) (w : World) : (Op.equalIn 10000 26 (.agg (entP p).toArray) (.agg (entP q).toArray)).run Try.prog w = .ok (decide (p = q)) w := by
  have hu := Try.underlying26
  have hc : Try.prog.cellsOf 26 = 33 := by kernel_rfl
  have form : ∀ x : List Int × Int, EntOk x → Value.formed Try.prog 26 (.agg (entP x).toArray) = true := fun x hx => by
    unfold Value.formed
    rw [hu]
    simp [hc, entP_length x hx]
  have cells : ∀ x : List Int × Int, (Value.agg (entP x).toArray).cells.toList = entP x := fun x => by
    show (entP x).toArray.toList = _
    simp
  obtain ⟨r, hr, hiff⟩ := run_equalIn_deep (P := Try.prog) 9997 3 26 (by kernel_rfl) w 3 3 (.agg (entP p).toArray) (.agg (entP q).toArray) _ _ (form p hp) (form q hq) (by rw [cells]; exact lits_ent hp) (by rw [cells]; exact lits_ent hq)
  rw [hr]
  congr 1
  by_cases h : p = q
  · subst h
    simpa using hiff.2 rfl
  · have : ¬ r = true := fun e => h (lits_inj (hiff.1 e))
    simpa [h] using this
end Go.Proofs.Ytpkcddnclifcpaa
namespace Go.Proofs.Ytpkcddnclifcpaa
open Go.RowKit

set_option maxRecDepth 100000 in
set_option maxHeartbeats 2000000 in
theorem same_any (va vb : Value) (l m : List (List Int × Int)) (w : World) (hs : Sn w 33 va l.length (l.flatMap entP)) (hok : ∀ p ∈ l, EntOk p) (hs' : Sn w 33 vb m.length (m.flatMap entP)) (hok' : ∀ p ∈ m, EntOk p) (hl : l.length ≤ 1000) (hm : m.length ≤ 1000) :
    Calls Try.prog 22 #[va, vb] w fun e w' => e = .returned (.bool (decide (l = m))) ∧ Below w.heap.size w w' := by
  obtain ⟨A, cap, rfl, hcap, _, _⟩ := id hs
  obtain ⟨A', cap', rfl, hcap', _, _⟩ := id hs'
  have HS := Lib.hid hs
  have HOK := Lib.hid hok
  have HS' := Lib.hid hs'
  have HOK' := Lib.hid hok'
  clear hs hok hs' hok'
  rcases Bool.eq_false_or_eq_true ((l.length : Int) != m.length) with d1 | d1
  · go_enter Try.func22, Try.ntmps22
    go_wp2_with fail
    go_ret
    have hne : l ≠ m := fun e => by subst e; simp at d1
    exact ⟨by simp [hne], Below.refl _ _⟩
  · have hlm : l.length = m.length := by simp at d1; omega
    have HLM := Lib.hid hlm
    clear hlm
    go_enter Try.func22, Try.ntmps22
    go_wp2_with fail
    go_loopw [5] (fun i wr => ∃ k : Nat, k ≤ l.length ∧ i = .int .i64 k ∧ Hid (l.take k = m.take k) ∧ Below w.heap.size w wr) (fun i _ => l.length - (intOf i).toNat)
    case atStart => exact ⟨0, Nat.zero_le _, rfl, Lib.hid rfl, Below.refl _ _⟩
    case round =>
      obtain ⟨k, hk, rfl, heqk, hb⟩ := hrel
      by_cases hlt : k < l.length
      · have hlt' : k < m.length := by rw [← HLM.out]; exact hlt
        obtain ⟨b, off, rfl, hr⟩ := at_elem entP EntOk 33 entP_length (HS.out.below hb) HOK.out k hlt
        obtain ⟨b', off', rfl, hr'⟩ := at_elem entP EntOk 33 entP_length (HS'.out.below hb) HOK'.out k hlt'
        have hr : wr.rangeAt b (off + k * 33) (entP l[k]) := hr
        have hr' : wr.rangeAt b' (off' + k * 33) (entP m[k]) := hr'
        have la := entP_length l[k] (HOK.out _ (List.getElem_mem hlt))
        have lb := entP_length m[k] (HOK'.out _ (List.getElem_mem hlt'))
        have heq := run_eqE (HOK.out l[k] (List.getElem_mem hlt)) (HOK'.out m[k] (List.getElem_mem hlt'))
        have hud := Try.underlying26
        have hua : (Try.prog.info? 26).map (·.size) = some (entP l[k]).length := by rw [la]; kernel_rfl
        have hub : (Try.prog.info? 26).map (·.size) = some (entP m[k]).length := by rw [lb]; kernel_rfl
        have hi0 : (0 : Int) ≤ k := by omega
        have hi1 : (k : Int) < l.length := by omega
        have hi2 : (k : Int) < m.length := by omega
        go_wp2_with fail
        rcases Bool.eq_false_or_eq_true (decide (l[k] = m[k])) with t1 | t1
        all_goals
          rw [t1] at heq
          refine wp_region_quiet_lit (by kernel_rfl) (by kernel_rfl) ?_
          repeat (first
            | (refine qLoad 26 (.tmp 19) rfl rfl rfl hr hud rfl hua ?_; simp only [Act.put, List.setIfInBounds_toArray, List.set_cons_zero, List.set_cons_succ])
            | (refine qLoad 26 (.tmp 23) rfl rfl rfl hr' hud rfl hub ?_; simp only [Act.put, List.setIfInBounds_toArray, List.set_cons_zero, List.set_cons_succ])
            | quiet_step (fail))
          refine wpQuiet_nil ?_
          intro w2 hw2
          obtain ⟨nq, hw3⟩ := hw2
          subst hw3
        · go_wp2_with fail
          refine ⟨⟨k + 1, by omega, by go_num, Lib.hid ?_, bdrewN hb _⟩, by simp [intOf]; omega⟩
          rw [List.take_succ_eq_append_getElem hlt, List.take_succ_eq_append_getElem hlt', heqk.out, of_decide_eq_true t1]
        · go_wp2_with fail
          go_ret
          have hne : l ≠ m := fun e => of_decide_eq_false t1 (by subst e; rfl)
          exact ⟨by simp [hne], bdrewN hb _⟩
      · obtain rfl : k = l.length := by omega
        have hall : l = m := by
          have h := heqk.out
          rw [List.take_length, HLM.out, List.take_length] at h
          exact h
        go_wp2_with fail
        go_ret
        exact ⟨by simp [hall], hb⟩
end Go.Proofs.Ytpkcddnclifcpaa
namespace Go.Proofs.Ytpkcddnclifcpaa
open Go.RowKit
attribute [local irreducible] wpQuiet wpAnyH
set_option linter.unusedSimpArgs false

theorem results_cellR2 {P : Program} {w : World} {fn : Func} {p u : Tmp} {ty ty' : TypeId} (h : fn.results = #[.cell p ty, .cell u ty']) (tmps : Array Value) {b b' : Nat} {cs ds : List Value} {d d' : TypeDesc} (hp : tmps.getD p undef = .pointer (some ⟨b, 0, none⟩)) (hp' : tmps.getD u undef = .pointer (some ⟨b', 0, none⟩)) (hc : w.rangeAt b 0 cs) (hc' : w.rangeAt b' 0 ds)
    (hu : P.underlying ty = some d) (hd : d.isRow = true) (hi : (P.info? ty).map (·.size) = some cs.length) (hu' : P.underlying ty' = some d') (hd' : d'.isRow = true) (hi' : (P.info? ty').map (·.size) = some ds.length) : (results fn tmps).run P w = .ok (.tuple #[.agg cs.toArray, .agg ds.toArray]) w := by
  have h1 : tmps[p]?.getD undef = .pointer (some ⟨b, 0, none⟩) := by simpa using hp
  have h2 : tmps[u]?.getD undef = .pointer (some ⟨b', 0, none⟩) := by simpa using hp'
  simp [results, h, h1, h2, asAddr, Sem.run_bind, Result.andThen, run_loadVar_mid w b 0 ty cs d hc hu hd hi, run_loadVar_mid w b' 0 ty' ds d' hc' hu' hd' hi']

set_option maxRecDepth 100000 in
theorem slot_halves (n : Nat) (w : World) (hn : n ≤ 1000000) :
    Calls Try.prog 8 #[.int .i64 n] w fun e w' => e = .returned (.tuple #[.agg #[.int .i64 0, .int .i64 ((n / 2 : Nat) : Int)], .agg #[.int .i64 ((n / 2 : Nat) : Int), .int .i64 ((n / 2 : Nat) : Int)]]) ∧ Below w.heap.size w w' := by
  have hn1 : (n : Int) ≤ 1000000 := by omega
  go_enter Try.func8, Try.ntmps8
  go_wp2_with fail
  have e : ((n / 2 : Nat) : Int) = (n : Int) / 2 := by simp
  rw [e]
  have hB1 := (Blk.new w 30 #[.int .i64 0, .int .i64 ((n : Int) / 2)]).alloc (.cells #[.int .i64 ((n : Int) / 2), .int .i64 ((n : Int) / 2)] 30)
  have hB2 := Blk.newAt (w.alloc (.cells #[.int .i64 0, .int .i64 ((n : Int) / 2)] 30)) 30 #[.int .i64 ((n : Int) / 2), .int .i64 ((n : Int) / 2)] (w.heap.size + 1) (by simp)
  have hbF : Below w.heap.size w ((w.alloc (.cells #[.int .i64 0, .int .i64 ((n : Int) / 2)] 30)).alloc (.cells #[.int .i64 ((n : Int) / 2), .int .i64 ((n : Int) / 2)] 30)) := ((Below.refl _ w).alloc (Nat.le_refl _) _).alloc (by simp) _
  exact bodyPost_ret (results_cellR2 rfl _ rfl rfl hB1.range hB2.range Try.underlying30 rfl (by kernel_rfl) Try.underlying30 rfl (by kernel_rfl)) rfl ⟨rfl, hbF⟩
end Go.Proofs.Ytpkcddnclifcpaa
