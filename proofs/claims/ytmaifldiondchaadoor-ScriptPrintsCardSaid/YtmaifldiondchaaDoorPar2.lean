/- script.parseCrash. -/
import Derived.Test.YtmaifldiondchaaDoorPar1
namespace Go.Proofs.YtmaifldiondchaaDoor
open Go.RowKit
set_option linter.unusedSimpArgs false

theorem tInt : SlT Tryd.prog 24 3 1 8 := SlT.mk' Tryd.underlying24 (z := .int .i64 0) (by kernel_rfl) rfl (by decide)
theorem intC_one (l : List Int) : ∀ u ∈ intC l, u.oneCell' = true := by
  intro u hu
  simp only [intC, List.mem_map] at hu
  obtain ⟨_, _, rfl⟩ := hu
  rfl
theorem intC_append (x y : List Int) : intC (x ++ y) = intC x ++ intC y := by simp [intC]
def OwnI (w : World) (base : Nat) (v : Value) (l : List Int) : Prop := w.ownsRow base 3 1 v l.length (intC l)
/-- The cuts of the words behind a number. -/
def runC : List Bs → List Int → Option (List Int)
  | [], acc => some acc
  | x :: ws, acc => match numB x with
    | none => none
    | some n => if 64 < n ∨ acc.length = 20 then none else runC ws (acc ++ [(n : Int)])
def crashR (s : Bs) : (Int × List Int) × Bool := match numB ((split 32 s).headD []) with
  | none => ((0, []), false)
  | some n => match runC (split 32 s).tail [] with
    | none => ((0, []), false)
    | some cs => (((n : Int), cs), true)
def lenV : Value → Nat
  | .string s => s.size
  | _ => 0
def measV (rest more : Value) : Nat := match more with
  | .bool true => lenV rest + 1
  | _ => 0
theorem numR_of (s : Bs) : (numB s = none ∧ numR s = (0, false)) ∨ ∃ n, numB s = some n ∧ numR s = ((n : Int), true) := by
  cases h : numB s with
  | none => exact .inl ⟨rfl, numR_none h⟩
  | some n => exact .inr ⟨n, rfl, numR_some h⟩
/-- What a cut leaves: the first word, the rest, whether there is one. -/
theorem cut_res (s : Bs) (hs : s.length ≤ 100000000) : ∃ (x r : Bs) (mb : Bool), Lib.cut s [32] = (x, r, mb) ∧ (split 32 s).headD [] = x ∧ (split 32 s).tail = (if mb then split 32 r else []) ∧ x.length ≤ s.length ∧ r.length ≤ s.length ∧ (mb = true → r.length < s.length) ∧ (s.length ≤ 100000000) := by
  rcases cut_ways 32 s with ⟨_, h2, h3⟩ | ⟨w, r, h1, h2, h3⟩
  · exact ⟨s, [], false, h3, by rw [h2]; rfl, by rw [h2]; rfl, Nat.le_refl _, by simp, (fun h => by cases h), hs⟩
  · have hl : s.length = w.length + (r.length + 1) := by rw [h1]; simp
    exact ⟨w, r, true, h3, by rw [h2]; rfl, by rw [h2]; rfl, by omega, by omega, (fun _ => by omega), hs⟩

set_option maxRecDepth 100000 in
set_option maxHeartbeats 4000000 in
theorem parseCrash_any (s : Bs) (w : World) (hml : ML w) (hs : s.length ≤ 100000000) :
    Calls Tryd.prog 47 #[.string (SB s)] w fun e w' => ∃ v, e = .returned (.tuple #[.int .i64 (crashR s).1.1, v, .bool (crashR s).2]) ∧ OwnI w' w.heap.size v (crashR s).1.2 ∧ Below w.heap.size w w' := by
  have HML := Lib.hid hml
  obtain ⟨x, r, mb, hcut, hhd, htl, hxl, hrl, hrm, _⟩ := cut_res s hs
  have hcall := cut_call 32 s w hml hs
  rw [hcut] at hcall
  have HCALL : Hid (Calls Tryd.prog 44 #[.string (SB s), .string ⟨#[32]⟩] w fun e w' => e = .returned (.tuple #[.string (SB x), .string (SB r), .bool mb]) ∧ ∃ n, w' = w.drewN n) := Lib.hid hcall
  have HNUM := Lib.hid (fun w1 => parseNumber_any x w1 (by omega))
  have HRES : Hid (crashR s = match numB x with | none => ((0, []), false) | some n => match runC (if mb then split 32 r else []) [] with | none => ((0, []), false) | some cs => (((n : Int), cs), true)) := Lib.hid (by unfold crashR; rw [hhd, htl])
  have HRL := Lib.hid hrl
  clear hcall hml hcut hhd htl hxl hrm hrl
  rcases numR_of x with ⟨hn, hr⟩ | ⟨n, hn, hr⟩
  · have HN : Hid (crashR s = ((0, []), false)) := Lib.hid (by rw [HRES.out, hn])
    rw [hr] at HNUM
    clear hn hr
    go_enter Tryd.func47, Tryd.ntmps47
    go_wp2_with (first
      | (go_at_call 44; refine HCALL.out.mono ?_; rintro e w' ⟨rfl, dn, rfl⟩)
      | (go_at_call 46; refine (HNUM.out _).mono ?_; rintro e w' ⟨rfl, rfl⟩))
    go_ret3
    exact ⟨_, by rw [HN.out]; rfl, by rw [HN.out]; exact World.ownsRow_nil _ _ _ _, bdrewN (Below.refl _ _) _⟩
  · have HN : Hid (crashR s = match runC (if mb then split 32 r else []) [] with | none => ((0, []), false) | some cs => (((n : Int), cs), true)) := Lib.hid (by rw [HRES.out, hn])
    rw [hr] at HNUM
    clear hn hr HRES
    go_enter Tryd.func47, Tryd.ntmps47
    go_wp2_with (first
      | (go_at_call 44; refine HCALL.out.mono ?_; rintro e w' ⟨rfl, dn, rfl⟩)
      | (go_at_call 46; refine (HNUM.out _).mono ?_; rintro e w' ⟨rfl, hw'⟩; rw [hw']; clear hw'))
    go_loopw [6, 7, 10] (fun rest more cuts wr => ∃ (r1 : Bs) (m1 : Bool) (acc : List Int), rest = .string (SB r1) ∧ more = .bool m1 ∧ acc.length ≤ 20 ∧ r1.length ≤ 100000000 ∧ Hid (OwnI wr w.heap.size cuts acc) ∧ Hid (Below w.heap.size w wr) ∧ Hid (runC (if mb then split 32 r else []) [] = runC (if m1 then split 32 r1 else []) acc)) (fun rest more _ _ => measV rest more)
    case atStart => exact ⟨r, mb, [], rfl, rfl, by simp, by have := HRL.out; omega, Lib.hid (World.ownsRow_nil _ _ _ _), Lib.hid (bdrewN (Below.refl _ _) _), Lib.hid rfl⟩
    case round =>
      obtain ⟨r1, m1, acc, rfl, rfl, hacc, hr1, HO, HB, HR⟩ := hrel
      have hszr := HB.out.size
      cases m1 with
      | false =>
        have HF : Hid (crashR s = (((n : Int), acc), true)) := Lib.hid (by rw [HN.out, HR.out]; rfl)
        go_wp2_with fail
        go_ret3
        exact ⟨_, by rw [HF.out]; rfl, by rw [HF.out]; exact HO.out, HB.out⟩
      | true =>
        obtain ⟨x2, r2, m2, hcut, hhd, htl, hxl, hrl, hrm, _⟩ := cut_res r1 hr1
        have hcall := cut_call 32 r1 wr (HML.out.below HB.out) hr1
        rw [hcut] at hcall
        have HCALL2 : Hid (Calls Tryd.prog 44 #[.string (SB r1), .string ⟨#[32]⟩] wr fun e w' => e = .returned (.tuple #[.string (SB x2), .string (SB r2), .bool m2]) ∧ ∃ n, w' = wr.drewN n) := Lib.hid hcall
        have HNUM2 := Lib.hid (fun w1 => parseNumber_any x2 w1 (by omega))
        have HR2 : Hid (runC (if mb then split 32 r else []) [] = runC (x2 :: (if m2 then split 32 r2 else [])) acc) := Lib.hid (by
          rw [HR.out, if_pos rfl, ← hhd, ← htl]
          obtain ⟨a, b, e⟩ := split_form 32 r1
          rw [e]; rfl)
        have HM : Hid (measV (.string (SB r2)) (.bool m2) < measV (.string (SB r1)) (.bool true)) := Lib.hid (by
          cases m2 with
          | false => simp [measV, lenV]
          | true => have := hrm rfl; simp [measV, lenV, SB_size]; omega)
        have hr2 : r2.length ≤ 100000000 := by omega
        clear hcall hcut hhd htl hrm
        rcases numR_of x2 with ⟨hn2, hrr⟩ | ⟨n2, hn2, hrr⟩
        · have HF : Hid (crashR s = ((0, []), false)) := Lib.hid (by rw [HN.out, HR2.out, runC, hn2])
          rw [hrr] at HNUM2
          clear hn2 hrr
          go_wp2_with (first
            | (go_at_call 44; refine HCALL2.out.mono ?_; rintro e w' ⟨rfl, d2, rfl⟩)
            | (go_at_call 46; refine (HNUM2.out _).mono ?_; rintro e w' ⟨rfl, hw'⟩; rw [hw']; clear hw'))
          go_ret3
          exact ⟨_, by rw [HF.out]; rfl, by rw [HF.out]; exact World.ownsRow_nil _ _ _ _, bdrewN HB.out _⟩
        · have HC2 : Hid (runC (x2 :: (if m2 then split 32 r2 else [])) acc = if 64 < n2 ∨ acc.length = 20 then none else runC (if m2 then split 32 r2 else []) (acc ++ [(n2 : Int)])) := Lib.hid (by rw [runC, hn2])
          have hnb := (numB_some hn2).2
          rw [hrr] at HNUM2
          clear hn2 hrr
          rcases Bool.eq_false_or_eq_true (decide ((64 : Int) < n2)) with t1 | t1
          · have HF : Hid (crashR s = ((0, []), false)) := Lib.hid (by rw [HN.out, HR2.out, HC2.out, if_pos (.inl (by have := of_decide_eq_true t1; omega))])
            go_wp2_with (first
              | (go_at_call 44; refine HCALL2.out.mono ?_; rintro e w' ⟨rfl, d2, rfl⟩)
              | (go_at_call 46; refine (HNUM2.out _).mono ?_; rintro e w' ⟨rfl, hw'⟩; rw [hw']; clear hw'))
            go_ret3
            exact ⟨_, by rw [HF.out]; rfl, by rw [HF.out]; exact World.ownsRow_nil _ _ _ _, bdrewN HB.out _⟩
          obtain ⟨A4, c4, e4, _⟩ := id (show ∃ A4 c4, u10 = .slice A4 acc.length c4 ∧ True by
            rcases HO.out.2 with ⟨h1, h2⟩ | ⟨g, cap, cur, h1, _⟩
            · exact ⟨none, 0, by rw [h1, h2], trivial⟩
            · exact ⟨_, _, h1, trivial⟩)
          subst e4
          rcases Bool.eq_false_or_eq_true ((acc.length : Int) == 20) with t2 | t2
          · have HF : Hid (crashR s = ((0, []), false)) := Lib.hid (by rw [HN.out, HR2.out, HC2.out, if_pos (.inr (by have := beq_iff_eq.1 t2; omega))])
            go_wp2_with (first
              | (go_at_call 44; refine HCALL2.out.mono ?_; rintro e w' ⟨rfl, d2, rfl⟩)
              | (go_at_call 46; refine (HNUM2.out _).mono ?_; rintro e w' ⟨rfl, hw'⟩; rw [hw']; clear hw'))
            go_ret3
            exact ⟨_, by rw [HF.out]; rfl, by rw [HF.out]; exact World.ownsRow_nil _ _ _ _, bdrewN HB.out _⟩
          · have hne : acc.length ≠ 20 := by have := beq_eq_false_iff_ne.1 t2; omega
            have HF : Hid (runC (if mb then split 32 r else []) [] = runC (if m2 then split 32 r2 else []) (acc ++ [(n2 : Int)])) := Lib.hid (by rw [HR2.out, HC2.out, if_neg (by have := of_decide_eq_false t1; omega)])
            go_wp2_with (first
              | (go_at_call 44; refine HCALL2.out.mono ?_; rintro e w' ⟨rfl, d2, hw'⟩; rw [hw']; clear hw')
              | (go_at_call 46; refine (HNUM2.out _).mono ?_; rintro e w' ⟨rfl, hw'⟩; rw [hw']; clear hw')
              | (at_builtin; refine app tInt (.tmp 49) (.tmp 51) rfl rfl (by rfl) (World.ownsRow.alloc (w := wr.drewN d2) HO.out _) (by rfl) (Sn.new (wr.drewN d2) (intC [(n2 : Int)]).toArray 3 1 1 rfl) (intC_one [(n2 : Int)]) (by unfold maxLen; omega) (by omega) (by simp; omega) ?_; intro v3 w3 hown hgrow _; rw [List.toList_toArray, ← intC_append] at hown; have HO3 := Lib.hid hown; have HB3 := Lib.hid (((bdrewN HB.out d2).alloc hszr _).grown hgrow (by simp; omega) (fun g hg => (World.ownsRow.lt HO.out g hg).1)); clear hown hgrow))
            exact ⟨⟨r2, m2, acc ++ [(n2 : Int)], rfl, rfl, by simp; omega, hr2, Lib.hid (by unfold OwnI; rw [List.length_append]; exact HO3.out), HB3, HF⟩, HM.out⟩
end Go.Proofs.YtmaifldiondchaaDoor
