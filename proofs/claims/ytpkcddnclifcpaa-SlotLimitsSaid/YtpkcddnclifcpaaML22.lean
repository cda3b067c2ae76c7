/- Parts: Plain: the values of SlotLimits. | '==' of entries, for a seat without maps of digests. | tollref18.Same (seat slot): it compares two lists of entries. | slot.Halves. | tolllaw18.code. -/
import Derived.Test.YtpkcddnclifcpaaML21
import Derived.Test.YtpkcddnclifcpaaML20
import Derived.Test.YtpkcddnclifcpaaML1
import Derived.DeepKeys
import Derived.Deep.MidRow
import Derived.WideKeyArr
import Derived.DeepKeys2
import Derived.Test.YtpkcddnclifcpaaML8
import Derived.Test.YtpkcddnclifcpaaML14
namespace Go.Proofs.Ytpkcddnclifcpaa
open Go.RowKit
attribute [local irreducible] wpQuiet wpAnyH
set_option linter.unusedSimpArgs false

def rq (sec : List (List Int)) (opn : List (Int × List Int)) (st : Int) : RefD := ⟨sec, opn, false, st, []⟩
theorem rq_step (sec : List (List Int)) (opn : List (Int × List Int)) (st : Int) : stepF (rq sec opn st) = (false, false, ([], .slice none 0 0)) := rfl
theorem rq_write {sec : List (List Int)} {opn : List (Int × List Int)} {st a : Int} (h0 : 0 ≤ a) (h1 : a < sec.length) (s : List Int) : rwriteA (rq sec opn st) a = 0 ∧ rwriteD (rq sec opn st) a s = rq sec (opn ++ [(a, s)]) (st + 1) := by
  have hh : ∀ st, rhas (rq sec opn st) a = true := fun st => by unfold rhas; rw [decide_eq_true h0, Bool.true_and]; exact decide_eq_true h1
  unfold rwriteA rwriteD radd
  rw [rq_step, hh, show rstep (rq sec opn st) = rq sec opn (st + 1) from rfl, hh]
  exact ⟨rfl, rfl⟩
theorem rfill_q : ∀ (L : List (List Int)) (sec : List (List Int)) (opn : List (Int × List Int)) (st a : Int), 0 ≤ a → a.toNat + L.length ≤ sec.length → (rfillW (rq sec opn st) a L).2 = 0
  | [], sec, opn, st, a, _, _ => rfl
  | s :: L, sec, opn, st, a, h0, h => by
    rw [List.length_cons] at h
    obtain ⟨h1, h2⟩ := rq_write (sec := sec) (opn := opn) (st := st) h0 (by omega) s
    rw [rfillW, if_pos h1, h2]
    exact rfill_q L sec _ _ (a + 1) (by omega) (by omega)
/-- What a put on a new disk of 20 sectors comes to. -/
theorem lim_put (z p : Int) (q : Ent2) (hz : 1 ≤ z ∧ z ≤ 20) : ∃ (pa : Ans) (sec : List (List Int)) (st r : Nat), putA (newD 20) 0 z p 3 q = pa ∧ putD (newD 20) 0 z p 3 q = qD sec [] st r ∧ sec.length = 20 ∧ st ≤ r ∧ r ≤ 10 ∧ st ≤ 2 ∧
    ((pa = some (13, none) ∧ st = 0 ∧ (p < 1 ∨ z - 1 < p)) ∨ (pa = some (15, none) ∧ st = 0 ∧ ¬ p < 1 ∧ ¬ z - 1 < p ∧ rightE q = false) ∨ (pa = none ∧ ¬ p < 1 ∧ ¬ z - 1 < p ∧ rightE q = true)) := by
  have hr : room z = z - 1 := by unfold room; rw [if_neg (by omega)]
  by_cases h1 : p < 1
  · refine ⟨some (13, none), List.replicate 20 zsec, 0, 0, by unfold putA; rw [if_pos h1], by unfold putD; rw [if_pos h1, newD_q], by simp, by omega, by omega, by omega, .inl ⟨rfl, rfl, .inl h1⟩⟩
  · by_cases h2 : z - 1 < p
    · refine ⟨some (13, none), List.replicate 20 zsec, 0, 0, by unfold putA; rw [if_neg h1, hr, if_pos h2], by unfold putD; rw [if_neg h1, hr, if_pos h2, newD_q], by simp, by omega, by omega, by omega, .inl ⟨rfl, rfl, .inr h2⟩⟩
    · cases h3 : rightE q with
      | false => exact ⟨some (15, none), List.replicate 20 zsec, 0, 0, by unfold putA; rw [if_neg h1, hr, if_neg h2, h3]; rfl, by unfold putD; rw [if_neg h1, hr, if_neg h2, h3, newD_q]; rfl, by simp, by omega, by omega, by omega, .inr (.inl ⟨rfl, rfl, h1, h2, rfl⟩)⟩
      | true =>
        obtain ⟨r1, hr0, hr1, hw⟩ := wsD_q (sec := List.replicate 20 zsec) (st := 0) (r := 0) (a := 0 + p) (by omega) (by simp; omega) (entRec 3 q)
        refine ⟨none, (List.replicate 20 zsec).set (0 + p).toNat (entRec 3 q), 2, r1, ?_, ?_, ?_, by omega, by omega, by omega, .inr (.inr ⟨rfl, h1, h2, rfl⟩)⟩
        · unfold putA
          rw [if_neg h1, hr, if_neg h2, h3, newD_q]
          exact wsA_q (by omega) (by simp; omega) _
        · unfold putD
          rw [if_neg h1, hr, if_neg h2, h3, newD_q]
          exact hw
        · simp
/-- What a fill behind it comes to, here and in the reference implementation. -/
theorem lim_fill (sec : List (List Int)) (st r : Nat) (z : Int) (l : List Ent2) (hz : 1 ≤ z ∧ z ≤ 20) (hs : sec.length = 20) (hst : st ≤ r) : ∃ (fa : Ans) (d2 : DiskD) (rr : RefD), fillR (qD sec [] st r) 0 z 3 l = (fa, d2) ∧ rfillD (rnewD 20) 0 z 3 l = (rr, codeA fa) ∧
    ((fa = none ∧ d2.steps = st + l.length + 1) ∨ ((fa = some (13, none) ∨ fa = some (15, none)) ∧ d2.steps = st)) := by
  have hr : room z = z - 1 := by unfold room; rw [if_neg (by omega)]
  have hm : max (z - 1) 0 = z - 1 := by omega
  unfold fillR rfillD
  rw [hr, hm]
  by_cases h1 : z - 1 < (l.length : Int)
  · rw [if_pos h1, if_pos h1]
    exact ⟨_, _, _, rfl, rfl, .inr ⟨.inl rfl, rfl⟩⟩
  · rw [if_neg h1, if_neg h1]
    by_cases h2 : l.all rightE = true
    · rw [if_pos h2, if_pos h2]
      obtain ⟨r', _, hf⟩ := fillW_q (l.map (entRec 3)) sec [] st r (0 + 1) (by decide) (by rw [List.length_map, hs]; show 1 + _ ≤ 20; omega) hst
      rw [hf]
      refine ⟨none, _, _, rfl, Prod.ext rfl ?_, .inl ⟨rfl, ?_⟩⟩
      · exact rfill_q (l.map (entRec 3)) (List.replicate 20 zsec) [] 0 (0 + 1) (by decide) (by rw [List.length_map, List.length_replicate]; show 1 + _ ≤ 20; omega)
      · show st + (l.map (entRec 3)).length + 1 = _
        rw [List.length_map]
    · rw [if_neg h2, if_neg h2]
      exact ⟨_, _, _, rfl, rfl, .inr ⟨.inr rfl, rfl⟩⟩
end Go.Proofs.Ytpkcddnclifcpaa
namespace Go.Proofs.Ytpkcddnclifcpaa
open Go.RowKit

theorem mapM_of {α β : Type} {f : α → Option β} {g : α → β} : ∀ {L : List α}, (∀ x ∈ L, f x = some (g x)) → L.mapM f = some (L.map g)
  | [], _ => rfl
  | x :: L, h => by
    rw [List.mapM_cons, h x (by simp), mapM_of (fun y hy => h y (by simp [hy]))]
    rfl
theorem lits_u8 (D : Nat) (n : Int) (h : 0 ≤ n ∧ n ≤ 255) : Try.prog.keyLits (D + 1) 5 [.int .u8 n] = some [.int .u8 n] := by
  unfold Program.keyLits
  rw [Try.underlying5]
  have : (Lit.int .u8 n).wf = true := by simp [Lit.wf, IntKind.min, IntKind.max, IntKind.signed, IntKind.bits]; omega
  simp [this]
theorem lits_dig (D : Nat) {d : List Int} (h : DigOk d) : Try.prog.keyLits (D + 2) 24 (u8s d) = some (d.map (Lit.int .u8)) := by
  have hc : Try.prog.cellsOf 24 = 32 := by kernel_rfl
  have hc1 : Try.prog.cellsOf 5 = 1 := by kernel_rfl
  have hl : (u8s d).length = 32 := by simp [u8s, h.len]
  unfold Program.keyLits
  rw [Try.underlying24]
  simp only [hc, hl, hc1, if_true, Nat.mul_one]
  rw [mapM_of (g := fun i => [Lit.int .u8 (d.getD i 0)]) (fun i hi => ?_)]
  · simp only [Option.map_some, Option.some.injEq]
    have hfl : ((List.range 32).map fun i => [Lit.int .u8 (d.getD i 0)]).flatten = (List.range 32).map fun i => Lit.int .u8 (d.getD i 0) := by
      rw [← List.flatMap_def, ← List.map_eq_flatMap]
    rw [hfl]
    apply List.ext_getElem
    · simp [h.len]
    · intro i h1 h2
      have hi : i < 32 := by simpa [h.len] using h2
      simp [show i < d.length by rw [h.len]; exact hi]
  · have hi : i < 32 := by simpa using hi
    have hlt : i < d.length := by rw [h.len]; exact hi
    have e : ((u8s d).drop i).take 1 = [.int .u8 (d.getD i 0)] := by
      have hlt' : i < (u8s d).length := by rw [hl]; exact hi
      rw [List.drop_eq_getElem_cons hlt']
      simp [u8s, hlt]
    rw [e]
    exact lits_u8 D _ (h.byte _ (by simp [hlt]))
theorem lits_ent {p : List Int × Int} (hp : EntOk p) : Try.prog.keyLits 3 26 (entP p) = some (p.1.map (Lit.int .u8) ++ [Lit.int .i64 p.2]) := by
  have hc : Try.prog.cellsOf 26 = 33 := by kernel_rfl
  have hc1 : Try.prog.cellsOf 24 = 32 := by kernel_rfl
  have hc2 : Try.prog.cellsOf 2 = 1 := by kernel_rfl
  have hl := entP_length p hp
  have h32 : (u8s p.1).length = 32 := by simp [u8s, hp.dig.len]
  have e1 : (entP p).take 32 = u8s p.1 := by unfold entP entC; rw [List.take_append_of_le_length (by omega), List.take_of_length_le (by omega)]
  have e2 : ((entP p).drop 32).take 1 = [.int .i64 p.2] := by unfold entP entC; rw [List.drop_append_of_le_length (by omega), List.drop_of_length_le (by omega)]; rfl
  have k2 : Try.prog.keyLits 2 2 [.int .i64 p.2] = some [Lit.int .i64 p.2] := by
    unfold Program.keyLits
    rw [Try.underlying2]
    simp [wf_i64 hp.exp]
  unfold Program.keyLits
  rw [Try.underlying26]
  simp [hc, hl, hc1, hc2, e1, e2, lits_dig 0 hp.dig, k2]
theorem lits_inj {p q : List Int × Int} (h : p.1.map (Lit.int .u8) ++ [Lit.int .i64 p.2] = q.1.map (Lit.int .u8) ++ [Lit.int .i64 q.2]) : p = q := by
  have h1 := List.append_inj' h rfl
  have h2 : p.1 = q.1 := by
    have key : ∀ a b : List Int, a.map (Lit.int .u8) = b.map (Lit.int .u8) → a = b := by
      intro a
      induction a with
      | nil => intro b hb; cases b with
        | nil => rfl
        | cons => simp at hb
      | cons x a ih => intro b hb; cases b with
        | nil => simp at hb
        | cons y b =>
          simp only [List.map_cons, List.cons.injEq, Lit.int.injEq, true_and] at hb
          rw [hb.1, ih b hb.2]
    exact key _ _ h1.1
  have h3 : p.2 = q.2 := by simpa using h1.2
  exact Prod.ext h2 h3
set_option maxRecDepth 100000 in
theorem run_eqE {p q : List Int × Int} (hp : EntOk p) (hq : EntOk q) (w : World) : (Op.equalIn 10000 26 (.agg (entP p).toArray) (.agg (entP q).toArray)).run Try.prog w = .ok (decide (p = q)) w := by
  have hu := Try.underlying26
  have hc : Try.prog.cellsOf 26 = 33 := by kernel_rfl
  have form : ∀ x : List Int × Int, EntOk x → Value.formed Try.prog 26 (.agg (entP x).toArray) = true := fun x hx => by
    unfold Value.formed
    rw [hu]
    simp [hc, entP_length x hx]
  have cells : ∀ x : List Int × Int, (Value.agg (entP x).toArray).cells.toList = entP x := fun x => by
    show (entP x).toArray.toList = _
    simp
  obtain ⟨r, hr, hiff⟩ := run_equalIn_deep (P := Try.prog) 9997 3 26 (by kernel_rfl) w 3 3 (.agg (entP p).toArray) (.agg (entP q).toArray) _ _ (form p hp) (form q hq) (by rw [cells]; exact lits_ent hp) (by rw [cells]; exact lits_ent hq)
  rw [hr]
  congr 1
  by_cases h : p = q
  · subst h
    simpa using hiff.2 rfl
  · have : ¬ r = true := fun e => h (lits_inj (hiff.1 e))
    simpa [h] using this
end Go.Proofs.Ytpkcddnclifcpaa
namespace Go.Proofs.Ytpkcddnclifcpaa
open Go.RowKit

set_option maxRecDepth 100000 in
set_option maxHeartbeats 2000000 in
theorem same_any (va vb : Value) (l m : List (List Int × Int)) (w : World) (hs : Sn w 33 va l.length (l.flatMap entP)) (hok : ∀ p ∈ l, EntOk p) (hs' : Sn w 33 vb m.length (m.flatMap entP)) (hok' : ∀ p ∈ m, EntOk p) (hl : l.length ≤ 1000) (hm : m.length ≤ 1000) :
    Calls Try.prog 22 #[va, vb] w fun e w' => e = .returned (.bool (decide (l = m))) ∧ Below w.heap.size w w' := by
  obtain ⟨A, cap, rfl, hcap, _, _⟩ := id hs
  obtain ⟨A', cap', rfl, hcap', _, _⟩ := id hs'
  have HS := Lib.hid hs
  have HOK := Lib.hid hok
  have HS' := Lib.hid hs'
  have HOK' := Lib.hid hok'
  clear hs hok hs' hok'
  rcases Bool.eq_false_or_eq_true ((l.length : Int) != m.length) with d1 | d1
  · go_enter Try.func22, Try.ntmps22
    go_wp2_with fail
    go_ret
    have hne : l ≠ m := fun e => by subst e; simp at d1
    exact ⟨by simp [hne], Below.refl _ _⟩
  · have hlm : l.length = m.length := by simp at d1; omega
    have HLM := Lib.hid hlm
    clear hlm
    go_enter Try.func22, Try.ntmps22
    go_wp2_with fail
    go_loopw [5] (fun i wr => ∃ k : Nat, k ≤ l.length ∧ i = .int .i64 k ∧ Hid (l.take k = m.take k) ∧ Below w.heap.size w wr) (fun i _ => l.length - (intOf i).toNat)
    case atStart => exact ⟨0, Nat.zero_le _, rfl, Lib.hid rfl, Below.refl _ _⟩
    case round =>
      obtain ⟨k, hk, rfl, heqk, hb⟩ := hrel
      by_cases hlt : k < l.length
      · have hlt' : k < m.length := by rw [← HLM.out]; exact hlt
        obtain ⟨b, off, rfl, hr⟩ := at_elem entP EntOk 33 entP_length (HS.out.below hb) HOK.out k hlt
        obtain ⟨b', off', rfl, hr'⟩ := at_elem entP EntOk 33 entP_length (HS'.out.below hb) HOK'.out k hlt'
        have hr : wr.rangeAt b (off + k * 33) (entP l[k]) := hr
        have hr' : wr.rangeAt b' (off' + k * 33) (entP m[k]) := hr'
        have la := entP_length l[k] (HOK.out _ (List.getElem_mem hlt))
        have lb := entP_length m[k] (HOK'.out _ (List.getElem_mem hlt'))
        have heq := run_eqE (HOK.out l[k] (List.getElem_mem hlt)) (HOK'.out m[k] (List.getElem_mem hlt'))
        have hud := Try.underlying26
        have hua : (Try.prog.info? 26).map (·.size) = some (entP l[k]).length := by rw [la]; kernel_rfl
        have hub : (Try.prog.info? 26).map (·.size) = some (entP m[k]).length := by rw [lb]; kernel_rfl
        have hi0 : (0 : Int) ≤ k := by omega
        have hi1 : (k : Int) < l.length := by omega
        have hi2 : (k : Int) < m.length := by omega
        go_wp2_with fail
        rcases Bool.eq_false_or_eq_true (decide (l[k] = m[k])) with t1 | t1
        all_goals
          rw [t1] at heq
          refine wp_region_quiet_lit (by kernel_rfl) (by kernel_rfl) ?_
          repeat (first
            | (refine qLoad 26 (.tmp 19) rfl rfl rfl hr hud rfl hua ?_; simp only [Act.put, List.setIfInBounds_toArray, List.set_cons_zero, List.set_cons_succ])
            | (refine qLoad 26 (.tmp 23) rfl rfl rfl hr' hud rfl hub ?_; simp only [Act.put, List.setIfInBounds_toArray, List.set_cons_zero, List.set_cons_succ])
            | quiet_step (fail))
          refine wpQuiet_nil ?_
          intro w2 hw2
          obtain ⟨nq, hw3⟩ := hw2
          subst hw3
        · go_wp2_with fail
          refine ⟨⟨k + 1, by omega, by go_num, Lib.hid ?_, bdrewN hb _⟩, by simp [intOf]; omega⟩
          rw [List.take_succ_eq_append_getElem hlt, List.take_succ_eq_append_getElem hlt', heqk.out, of_decide_eq_true t1]
        · go_wp2_with fail
          go_ret
          have hne : l ≠ m := fun e => of_decide_eq_false t1 (by subst e; rfl)
          exact ⟨by simp [hne], bdrewN hb _⟩
      · obtain rfl : k = l.length := by omega
        have hall : l = m := by
          have h := heqk.out
          rw [List.take_length, HLM.out, List.take_length] at h
          exact h
        go_wp2_with fail
        go_ret
        exact ⟨by simp [hall], hb⟩
end Go.Proofs.Ytpkcddnclifcpaa
namespace Go.Proofs.Ytpkcddnclifcpaa
open Go.RowKit
attribute [local irreducible] wpQuiet wpAnyH
set_option linter.unusedSimpArgs false

theorem results_cellR2 {P : Program} {w : World} {fn : Func} {p u : Tmp} {ty ty' : TypeId} (h : fn.results = #[.cell p ty, .cell u ty']) (tmps : Array Value) {b b' : Nat} {cs ds : List Value} {d d' : TypeDesc} (hp : tmps.getD p undef = .pointer (some ⟨b, 0, none⟩)) (hp' : tmps.getD u undef = .pointer (some ⟨b', 0, none⟩)) (hc : w.rangeAt b 0 cs) (hc' : w.rangeAt b' 0 ds)
    (hu : P.underlying ty = some d) (hd : d.isRow = true) (hi : (P.info? ty).map (·.size) = some cs.length) (hu' : P.underlying ty' = some d') (hd' : d'.isRow = true) (hi' : (P.info? ty').map (·.size) = some ds.length) : (results fn tmps).run P w = .ok (.tuple #[.agg cs.toArray, .agg ds.toArray]) w := by
  have h1 : tmps[p]?.getD undef = .pointer (some ⟨b, 0, none⟩) := by simpa using hp
  have h2 : tmps[u]?.getD undef = .pointer (some ⟨b', 0, none⟩) := by simpa using hp'
  simp [results, h, h1, h2, asAddr, Sem.run_bind, Result.andThen, run_loadVar_mid w b 0 ty cs d hc hu hd hi, run_loadVar_mid w b' 0 ty' ds d' hc' hu' hd' hi']

set_option maxRecDepth 100000 in
theorem slot_halves (n : Nat) (w : World) (hn : n ≤ 1000000) :
    Calls Try.prog 8 #[.int .i64 n] w fun e w' => e = .returned (.tuple #[.agg #[.int .i64 0, .int .i64 ((n / 2 : Nat) : Int)], .agg #[.int .i64 ((n / 2 : Nat) : Int), .int .i64 ((n / 2 : Nat) : Int)]]) ∧ Below w.heap.size w w' := by
  have hn1 : (n : Int) ≤ 1000000 := by omega
  go_enter Try.func8, Try.ntmps8
  go_wp2_with fail
  have e : ((n / 2 : Nat) : Int) = (n : Int) / 2 := by simp
  rw [e]
  have hB1 := (Blk.new w 30 #[.int .i64 0, .int .i64 ((n : Int) / 2)]).alloc (.cells #[.int .i64 ((n : Int) / 2), .int .i64 ((n : Int) / 2)] 30)
  have hB2 := Blk.newAt (w.alloc (.cells #[.int .i64 0, .int .i64 ((n : Int) / 2)] 30)) 30 #[.int .i64 ((n : Int) / 2), .int .i64 ((n : Int) / 2)] (w.heap.size + 1) (by simp)
  have hbF : Below w.heap.size w ((w.alloc (.cells #[.int .i64 0, .int .i64 ((n : Int) / 2)] 30)).alloc (.cells #[.int .i64 ((n : Int) / 2), .int .i64 ((n : Int) / 2)] 30)) := ((Below.refl _ w).alloc (Nat.le_refl _) _).alloc (by simp) _
  exact bodyPost_ret (results_cellR2 rfl _ rfl rfl hB1.range hB2.range Try.underlying30 rfl (by kernel_rfl) Try.underlying30 rfl (by kernel_rfl)) rfl ⟨rfl, hbF⟩
end Go.Proofs.Ytpkcddnclifcpaa
namespace Go.Proofs.Ytpkcddnclifcpaa
open Go.RowKit
attribute [local irreducible] wpQuiet wpAnyH
set_option linter.unusedSimpArgs false
theorem code18 (o : Ans) (w : World) (h : isI64 (codeA o)) : Calls Try.prog 13 #[valE o] w fun e w' => e = .returned (.int .i64 (codeA o)) ∧ Below w.heap.size w w' := by
  obtain ⟨v, hv⟩ : ∃ v, v = valE o := ⟨_, rfl⟩
  have HC := Lib.hid (code_val o w)
  rw [← hv] at HC ⊢
  obtain ⟨c, hc⟩ : ∃ c, c = codeA o := ⟨_, rfl⟩
  rw [← hc] at HC h ⊢
  have h1 : -9223372036854775808 ≤ c := h.1
  have h2 : c ≤ 9223372036854775807 := h.2
  clear hv hc h
  go_enter Try.func13, Try.ntmps13
  go_wp2_with (go_at_call 31; refine HC.out.mono ?_; rintro e w1 ⟨rfl, hb⟩; have HB := Lib.hid hb; clear hb)
  go_ret
  exact ⟨rfl, HB.out⟩
end Go.Proofs.Ytpkcddnclifcpaa
