/- Scripts as plain lists of bytes: an operation's line leads back to it, and each line that has an operation is that one's line. -/
import Derived.Test.YtmaifldiondchaaDoorScr0
namespace Go.Proofs.YtmaifldiondchaaDoor

theorem split_nil (c : UInt8) : split c [] = [[]] := rfl
theorem split_cons (c x : UInt8) (s : Bs) : split c (x :: s) = if x = c then [] :: split c s else (x :: (split c s).headD []) :: (split c s).tail := rfl
theorem split_ne (c : UInt8) (s : Bs) : split c s ≠ [] := by
  cases s with
  | nil => simp [split]
  | cons x s => rw [split_cons]; split <;> simp
theorem split_form (c : UInt8) (s : Bs) : ∃ w ws, split c s = w :: ws := List.exists_cons_of_ne_nil (split_ne c s)
theorem split_word (c : UInt8) : ∀ w : Bs, c ∉ w → split c w = [w]
  | [], _ => rfl
  | x :: w, h => by
    have hx : x ≠ c := fun e => h (by rw [e]; simp)
    have hw := split_word c w (fun e => h (by simp [e]))
    rw [split_cons, if_neg hx, hw]; rfl
theorem split_app (c : UInt8) : ∀ (w s : Bs), c ∉ w → split c (w ++ c :: s) = w :: split c s
  | [], s, _ => by show split c (c :: s) = _; rw [split_cons, if_pos rfl]
  | x :: w, s, h => by
    have hx : x ≠ c := fun e => h (by rw [e]; simp)
    have hw := split_app c w s (fun e => h (by simp [e]))
    rw [List.cons_append, split_cons, if_neg hx, hw]; rfl
/-- The words of a line, each with its space ahead. -/
def spaced (ws : List Bs) : Bs := ws.flatMap fun w => 32 :: w
def joined : List Bs → Bs
  | [] => []
  | w :: ws => w ++ spaced ws
theorem split_joined : ∀ (w : Bs) (ws : List Bs), (∀ x ∈ w :: ws, (32 : UInt8) ∉ x) → split 32 (w ++ spaced ws) = w :: ws
  | w, [], h => by
    show split 32 (w ++ []) = _
    rw [List.append_nil]
    exact split_word 32 w (h w (by simp))
  | w, x :: ws, h => by
    show split 32 (w ++ 32 :: (x ++ spaced ws)) = _
    rw [split_app 32 w _ (h w (by simp)), split_joined x ws (fun y hy => h y (by simp at hy ⊢; exact .inr hy))]
theorem joined_split : ∀ s : Bs, joined (split 32 s) = s
  | [] => rfl
  | x :: s => by
    have ih := joined_split s
    obtain ⟨w, ws, e⟩ := split_form 32 s
    rw [split_cons]
    rw [e] at ih ⊢
    split
    · rename_i hx
      subst hx
      show [] ++ (32 :: w ++ spaced ws) = _
      rw [List.nil_append, List.cons_append]
      congr 1
    · show x :: w ++ spaced ws = _
      rw [List.cons_append]
      congr 1
theorem split_words (c : UInt8) : ∀ (s : Bs), ∀ x ∈ split c s, c ∉ x
  | [], x, h => by simp [split] at h; rw [h]; simp
  | y :: s, x, h => by
    have ih := split_words c s
    obtain ⟨w, ws, e⟩ := split_form c s
    rw [split_cons] at h
    rw [e] at ih h
    split at h
    · simp only [List.mem_cons] at h
      rcases h with rfl | h | h
      · simp
      · exact ih x (by simp [h])
      · exact ih x (by simp [h])
    · rename_i hy
      simp only [List.headD_cons, List.tail_cons, List.mem_cons] at h
      rcases h with rfl | h
      · intro hm
        simp only [List.mem_cons] at hm
        rcases hm with hm | hm
        · exact hy hm.symm
        · exact ih w (by simp) hm
      · exact ih x (by simp [h])

theorem right_kind {o : OpD} (h : rightB o = true) : o.kind = 1 ∨ o.kind = 2 ∨ o.kind = 3 ∨ o.kind = 4 ∨ o.kind = 5 ∨ o.kind = 6 := by
  unfold rightB at h
  simp only [Bool.and_eq_true] at h
  have h := h.2.2
  repeat (split at h; · omega)
  cases h
theorem wordL_nosp (k : Int) : (32 : UInt8) ∉ wordL k ∧ (10 : UInt8) ∉ wordL k := by
  unfold wordL
  repeat (split; · decide)
  decide
theorem kindOf_word {k : Int} (h : k = 1 ∨ k = 2 ∨ k = 3 ∨ k = 4 ∨ k = 5 ∨ k = 6) : kindOf (wordL k) = k := by
  rcases h with rfl | rfl | rfl | rfl | rfl | rfl <;> decide
theorem word_kindOf {w : Bs} (h : kindOf w ≠ 0) : wordL (kindOf w) = w := by
  unfold kindOf at h ⊢
  repeat (split; · rename_i e; exact e.symm)
  simp_all
theorem cutsL_spaced (c : List Int) : cutsL c = spaced (c.map Lib.itoa) := by simp [cutsL, spaced, List.flatMap_map]
theorem cutsOf_itoa : ∀ c : List Int, (∀ x ∈ c, 0 ≤ x ∧ x ≤ 64) → cutsOf (c.map Lib.itoa) = some c
  | [], _ => rfl
  | x :: c, h => by
    have hx := h x (by simp)
    show (numB (Lib.itoa x)).bind _ = _
    rw [numB_itoa x hx.1 (by omega), Option.bind_some, cutsOf_itoa c (fun y hy => h y (by simp [hy])), Option.map_some]
    rw [Int.toNat_of_nonneg hx.1]
theorem cutsOf_some : ∀ (ws : List Bs) (c : List Int), cutsOf ws = some c → c.map Lib.itoa = ws
  | [], c, h => by unfold cutsOf at h; cases h; rfl
  | w :: ws, c, h => by
    unfold cutsOf at h
    rw [Option.bind_eq_some_iff] at h
    obtain ⟨n, hn, h⟩ := h
    rw [Option.map_eq_some_iff] at h
    obtain ⟨l, hl, rfl⟩ := h
    rw [List.map_cons, (numB_some hn).1, cutsOf_some ws l hl]
structure RightP (o : OpD) : Prop where
  data : o.kind = 3 ∨ o.data = []
  cuts : o.kind = 6 ∨ o.cuts = []
  n : (0 ≤ o.n ∧ o.n ≤ 1099511627776) ∧ ((o.kind = 2 ∨ o.kind = 3 ∨ o.kind = 4) → o.n = 0)
  cut : ∀ x ∈ o.cuts, 0 ≤ x ∧ x ≤ 64
theorem cutsB_iff (c : List Int) : cutsB c = true ↔ ∀ x ∈ c, 0 ≤ x ∧ x ≤ 64 := by
  unfold cutsB
  rw [List.all_eq_true]
  simp only [Bool.and_eq_true, decide_eq_true_eq]
theorem right_p {o : OpD} (h : rightB o = true) : RightP o := by
  have hk := right_kind h
  unfold rightB at h
  simp only [Bool.and_eq_true, Bool.or_eq_true, beq_iff_eq, List.isEmpty_iff] at h
  obtain ⟨h1, h2, h3⟩ := h
  have hc : o.kind ≠ 6 → ∀ x ∈ o.cuts, 0 ≤ x ∧ x ≤ 64 := fun hn x hx => by
    rcases h2 with h2 | h2
    · exact absurd h2 hn
    · rw [h2] at hx; cases hx
  refine ⟨h1, h2, ?_, ?_⟩
  · rcases hk with e | e | e | e | e | e <;> (rw [e] at h3 ⊢; simp at h3; omega)
  · rcases hk with e | e | e | e | e | e
    · exact hc (by omega)
    · exact hc (by omega)
    · exact hc (by omega)
    · exact hc (by omega)
    · exact hc (by omega)
    · rw [e] at h3
      simp only [Int.reduceEq, if_true, if_false, Bool.and_eq_true] at h3
      exact (cutsB_iff _).1 h3.2.2.1
/-- The words of a line behind the first. -/
def restW (o : OpD) : List Bs := (if numbered o.kind then [Lib.itoa o.n] else []) ++ o.cuts.map Lib.itoa ++ (if o.data.isEmpty then [] else [hexL o.data])
theorem spaced_app (x y : List Bs) : spaced (x ++ y) = spaced x ++ spaced y := by simp [spaced]
theorem lineL_words (o : OpD) : lineL o = wordL o.kind ++ spaced (restW o) := by
  unfold lineL restW
  rw [spaced_app, spaced_app, ← cutsL_spaced, List.append_assoc, List.append_assoc, List.append_assoc]
  congr 2
  · split <;> simp [spaced]
  · congr 1
    split <;> simp [spaced]
theorem restW_nosp {o : OpD} (h : RightP o) (c : UInt8) (h1 : isDig c = false) (h2 : digV c = 99) : ∀ x ∈ restW o, c ∉ x := by
  intro x hx
  unfold restW at hx
  simp only [List.mem_append, List.mem_map] at hx
  rcases hx with (hx | ⟨y, hy, rfl⟩) | hx
  · split at hx
    · obtain rfl : x = Lib.itoa o.n := by simpa using hx
      exact itoa_nosp _ h.n.1.1 c h1
    · cases hx
  · exact itoa_nosp _ (h.cut y hy).1 c h1
  · split at hx
    · cases hx
    · obtain rfl : x = hexL o.data := by simpa using hx
      exact hexL_nosp _ c h2
theorem split_line {o : OpD} (h : RightP o) : split 32 (lineL o) = wordL o.kind :: restW o := by
  rw [lineL_words]
  refine split_joined _ _ fun x hx => ?_
  rw [List.mem_cons] at hx
  rcases hx with rfl | hx
  · exact (wordL_nosp _).1
  · exact restW_nosp h 32 (by decide) (by decide) x hx
theorem opd_eta {o : OpD} {k n : Int} {d : Bs} {c : List Int} (h1 : o.kind = k) (h2 : o.n = n) (h3 : o.data = d) (h4 : o.cuts = c) : o = ⟨k, n, d, c⟩ := by
  cases o; simp_all
theorem opW_rest {o : OpD} (h : rightB o = true) : opW o.kind (restW o) = some o := by
  have hp := right_p h
  have hn0 := hp.n.1
  have hnum : numB (Lib.itoa o.n) = some o.n.toNat := numB_itoa _ hn0.1 (by omega)
  have hni : ((o.n.toNat : Nat) : Int) = o.n := Int.toNat_of_nonneg hn0.1
  rcases right_kind h with e | e | e | e | e | e
  · have hd := hp.data.resolve_left (by omega)
    have hc := hp.cuts.resolve_left (by omega)
    have hr : restW o = [Lib.itoa o.n] := by unfold restW; rw [e, hd, hc]; rfl
    rw [hr, e]
    show (numB (Lib.itoa o.n)).map _ = _
    rw [hnum, Option.map_some, hni, ← opd_eta e rfl hd hc]
  · have hd := hp.data.resolve_left (by omega)
    have hc := hp.cuts.resolve_left (by omega)
    have hr : restW o = [] := by unfold restW; rw [e, hd, hc]; rfl
    rw [hr, e]
    show some (OpD.mk 2 0 [] []) = _
    rw [← opd_eta e (hp.n.2 (by omega)) hd hc]
  · have hc := hp.cuts.resolve_left (by omega)
    rw [e]
    by_cases hd : o.data = []
    · have hr : restW o = [] := by unfold restW; rw [e, hd, hc]; rfl
      rw [hr]
      show some (OpD.mk 3 0 [] []) = _
      rw [← opd_eta e (hp.n.2 (by omega)) hd hc]
    · have hr : restW o = [hexL o.data] := by
        unfold restW
        rw [e, hc]
        simp [numbered, hd]
      rw [hr]
      show (if hexL o.data = [] then none else (hexB (hexL o.data)).map fun d => OpD.mk 3 0 d []) = _
      rw [if_neg (hexL_ne _ hd), hexB_hexL, Option.map_some, ← opd_eta e (hp.n.2 (by omega)) rfl hc]
  · have hd := hp.data.resolve_left (by omega)
    have hc := hp.cuts.resolve_left (by omega)
    have hr : restW o = [] := by unfold restW; rw [e, hd, hc]; rfl
    rw [hr, e]
    show some (OpD.mk 4 0 [] []) = _
    rw [← opd_eta e (hp.n.2 (by omega)) hd hc]
  · have hd := hp.data.resolve_left (by omega)
    have hc := hp.cuts.resolve_left (by omega)
    have hr : restW o = [Lib.itoa o.n] := by unfold restW; rw [e, hd, hc]; rfl
    rw [hr, e]
    show (numB (Lib.itoa o.n)).map _ = _
    rw [hnum, Option.map_some, hni, ← opd_eta e rfl hd hc]
  · have hd := hp.data.resolve_left (by omega)
    have hr : restW o = Lib.itoa o.n :: o.cuts.map Lib.itoa := by unfold restW; rw [e, hd]; simp [numbered]
    rw [hr, e]
    show (numB (Lib.itoa o.n)).bind (fun (n : Nat) => (cutsOf (o.cuts.map Lib.itoa)).map fun cs => OpD.mk 6 (n : Int) [] cs) = _
    rw [hnum, Option.bind_some, cutsOf_itoa _ hp.cut, Option.map_some, hni, ← opd_eta e rfl hd rfl]
/-- A right operation's line leads back to it. -/
theorem parse_line {o : OpD} (h : rightB o = true) : parseL (lineB o) = some o := by
  unfold lineB parseL
  rw [if_pos h, split_line (right_p h), List.headD_cons, List.tail_cons, kindOf_word (right_kind h), opW_rest h, Option.bind_some, if_pos h]
theorem opW_line {k : Int} {r : List Bs} {o : OpD} (h : opW k r = some o) : o.kind = k ∧ (rightB o = true → restW o = r) := by
  unfold opW at h
  split at h
  · rename_i hk
    split at h
    · rename_i x
      rw [Option.map_eq_some_iff] at h
      obtain ⟨n, hn, rfl⟩ := h
      refine ⟨rfl, fun _ => ?_⟩
      unfold restW
      rw [show numbered k = true by rcases hk with rfl | rfl <;> rfl]
      simp [(numB_some hn).1]
    · cases h
  split at h
  · rename_i _ hk
    split at h
    · cases h
      refine ⟨rfl, fun _ => ?_⟩
      unfold restW
      rw [show numbered k = false by rcases hk with rfl | rfl <;> rfl]
      rfl
    · cases h
  split at h
  · rename_i hk
    subst hk
    split at h
    · cases h
      exact ⟨rfl, fun _ => rfl⟩
    · rename_i x
      split at h
      · cases h
      · rename_i hx
        rw [Option.map_eq_some_iff] at h
        obtain ⟨d, hd, rfl⟩ := h
        refine ⟨rfl, fun _ => ?_⟩
        have he := hexL_hexB _ x d (Nat.le_refl _) hd
        have hne : d ≠ [] := by rintro rfl; exact hx he.symm
        unfold restW
        rw [if_neg (show ¬ (d.isEmpty = true) by simpa using hne), he]; rfl
    · cases h
  split at h
  · rename_i hk
    subst hk
    split at h
    · rename_i x xs
      rw [Option.bind_eq_some_iff] at h
      obtain ⟨n, hn, h⟩ := h
      rw [Option.map_eq_some_iff] at h
      obtain ⟨cs, hcs, rfl⟩ := h
      refine ⟨rfl, fun _ => ?_⟩
      unfold restW
      simp only [numbered, (numB_some hn).1, cutsOf_some _ _ hcs]
      simp
    · cases h
  · cases h
/-- A string that leads to an operation is that one's line. -/
theorem line_parse {s : Bs} {o : OpD} (h : parseL s = some o) : rightB o = true ∧ lineB o = s := by
  unfold parseL at h
  rw [Option.bind_eq_some_iff] at h
  obtain ⟨o', h1, h2⟩ := h
  split at h2
  · rename_i hr
    obtain rfl : o' = o := by simpa using h2
    obtain ⟨hk, hrest⟩ := opW_line h1
    refine ⟨hr, ?_⟩
    unfold lineB
    rw [if_pos hr, lineL_words, hrest hr]
    have hk0 : kindOf ((split 32 s).headD []) ≠ 0 := by
      rw [← hk]
      have := right_kind hr
      omega
    rw [hk, word_kindOf hk0]
    obtain ⟨w, ws, e⟩ := split_form 32 s
    have := joined_split s
    rw [e] at this ⊢
    exact this
  · cases h2
theorem line_inj {a b : OpD} (ha : rightB a = true) (hb : rightB b = true) (h : lineB a = lineB b) : a = b := by
  have h1 := parse_line ha
  rw [h, parse_line hb] at h1
  simpa using h1.symm
end Go.Proofs.YtmaifldiondchaaDoor
