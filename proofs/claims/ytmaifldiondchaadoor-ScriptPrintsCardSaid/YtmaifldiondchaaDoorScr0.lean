/- Scripts as plain lists of bytes: what a line, an operation and a script are. No program in sight. -/
import Derived.Test.YtmaifldiondchaaDoorDecimal
namespace Go.Proofs.YtmaifldiondchaaDoor

abbrev Bs := List UInt8
structure OpD where
  kind : Int
  n : Int
  data : Bs
  cuts : List Int
def op0 : OpD := ⟨0, 0, [], []⟩
def cutsB (c : List Int) : Bool := c.all fun x => decide (0 ≤ x) && decide (x ≤ 64)
def rightB (o : OpD) : Bool :=
  (o.kind == 3 || o.data.isEmpty) && ((o.kind == 6 || o.cuts.isEmpty) &&
  (if o.kind = 1 then decide (0 ≤ o.n) && decide (o.n ≤ 1099511627776)
   else if o.kind = 2 then o.n == 0
   else if o.kind = 3 then o.n == 0 && decide (o.data.length ≤ 131072)
   else if o.kind = 4 then o.n == 0
   else if o.kind = 5 then decide (1 ≤ o.n) && decide (o.n ≤ 1048576)
   else if o.kind = 6 then decide (0 ≤ o.n) && (decide (o.n ≤ 1048576) && (cutsB o.cuts && decide (o.cuts.length ≤ 20)))
   else false))
def wordL (k : Int) : Bs :=
  if k = 1 then [116, 105, 99, 107] else if k = 2 then [98, 111, 111, 116] else if k = 3 then [118, 101, 114, 105, 102, 121]
  else if k = 4 then [99, 111, 109, 112, 97, 99, 116] else if k = 5 then [102, 97, 105, 108] else if k = 6 then [99, 114, 97, 115, 104] else []
def hexD (d : Nat) : UInt8 := if d < 10 then UInt8.ofNat (48 + d) else UInt8.ofNat (87 + d)
def hexL (l : Bs) : Bs := l.flatMap fun b => [hexD (b.toNat / 16), hexD (b.toNat % 16)]
def cutsL (c : List Int) : Bs := c.flatMap fun x => 32 :: Lib.itoa x
def numbered (k : Int) : Bool := k == 1 || (k == 5 || k == 6)
def lineL (o : OpD) : Bs := wordL o.kind ++ (if numbered o.kind then 32 :: Lib.itoa o.n else []) ++ cutsL o.cuts ++ (if o.data.isEmpty then [] else 32 :: hexL o.data)
def lineB (o : OpD) : Bs := if rightB o then lineL o else []

def isDig (b : UInt8) : Bool := decide (48 ≤ b.toNat) && decide (b.toNat ≤ 57)
def valB (s : Bs) : Nat := s.foldl (fun n b => n * 10 + (b.toNat - 48)) 0
def numB (s : Bs) : Option Nat := if decide (1 ≤ s.length) && (decide (s.length ≤ 13) && ((s.head? != some 48 || s.length == 1) && s.all isDig)) then some (valB s) else none
def digV (b : UInt8) : Nat := if 48 ≤ b.toNat ∧ b.toNat ≤ 57 then b.toNat - 48 else if 97 ≤ b.toNat ∧ b.toNat ≤ 102 then b.toNat - 87 else 99
def hexB : Bs → Option Bs
  | [] => some []
  | [_] => none
  | x :: y :: r => if digV x ≤ 15 ∧ digV y ≤ 15 then (hexB r).map (UInt8.ofNat (digV x * 16 + digV y) :: ·) else none
def split (c : UInt8) : Bs → List Bs
  | [] => [[]]
  | x :: s => if x = c then [] :: split c s else (x :: (split c s).headD []) :: (split c s).tail
def cutsOf : List Bs → Option (List Int)
  | [] => some []
  | x :: xs => (numB x).bind fun (n : Nat) => (cutsOf xs).map fun l => (n : Int) :: l
def kindOf (w : Bs) : Int :=
  if w = wordL 1 then 1 else if w = wordL 2 then 2 else if w = wordL 3 then 3 else if w = wordL 4 then 4 else if w = wordL 5 then 5 else if w = wordL 6 then 6 else 0
/-- The operation of the words of a line; none where the kind has no such line. -/
def opW (k : Int) (r : List Bs) : Option OpD :=
  if k = 1 ∨ k = 5 then (match r with | [x] => (numB x).map fun (n : Nat) => OpD.mk k (n : Int) [] [] | _ => none)
  else if k = 2 ∨ k = 4 then (match r with | [] => some ⟨k, 0, [], []⟩ | _ => none)
  else if k = 3 then (match r with | [] => some ⟨3, 0, [], []⟩ | [x] => if x = [] then none else (hexB x).map fun d => OpD.mk 3 0 d [] | _ => none)
  else if k = 6 then (match r with | x :: xs => (numB x).bind fun (n : Nat) => (cutsOf xs).map fun cs => OpD.mk 6 (n : Int) [] cs | _ => none)
  else none
def parseL (s : Bs) : Option OpD := (opW (kindOf ((split 32 s).headD [])) (split 32 s).tail).bind fun o => if rightB o then some o else none

/-! ### Numbers -/
theorem valB_snoc (s : Bs) (b : UInt8) : valB (s ++ [b]) = valB s * 10 + (b.toNat - 48) := by simp [valB, List.foldl_append]
theorem ofNat_toNat {n : Nat} (h : n < 256) : (UInt8.ofNat n).toNat = n := by simpa using Nat.mod_eq_of_lt h
theorem dec_big {u : Nat} (h : 10 ≤ u) : Lib.decDigits u = Lib.decDigits (u / 10) ++ [UInt8.ofNat (48 + u % 10)] := by
  rw [Lib.decDigits, dif_neg (by omega)]
theorem valB_dec (u : Nat) : valB (Lib.decDigits u) = u := by
  induction u using Nat.strongRecOn with
  | _ u ih =>
    by_cases h : u < 10
    · rw [Lib.decDigits_one h]
      simp only [valB, List.foldl_cons, List.foldl_nil]
      rw [ofNat_toNat (by omega)]; omega
    · rw [dec_big (by omega), valB_snoc, ih (u / 10) (by omega), ofNat_toNat (by omega)]
      omega
theorem isDig_of {d : Nat} (h : d < 10) : isDig (UInt8.ofNat (48 + d)) = true := by
  unfold isDig
  rw [ofNat_toNat (by omega)]
  simp; omega
theorem dec_all (u : Nat) : (Lib.decDigits u).all isDig = true := by
  induction u using Nat.strongRecOn with
  | _ u ih =>
    by_cases h : u < 10
    · rw [Lib.decDigits_one h]
      rw [List.all_cons, isDig_of h]; rfl
    · rw [dec_big (by omega), List.all_append, ih (u / 10) (by omega)]
      rw [List.all_cons, isDig_of (show u % 10 < 10 by omega)]; rfl
theorem dec_ne (u : Nat) : Lib.decDigits u ≠ [] := by
  intro h
  have := Lib.decDigits_length u
  rw [h] at this
  have := Lib.nDigits_pos u
  simp at *
  omega
theorem dec_head (u : Nat) (h1 : 1 ≤ u) : (Lib.decDigits u).head? ≠ some 48 := by
  induction u using Nat.strongRecOn with
  | _ u ih =>
    by_cases h : u < 10
    · rw [Lib.decDigits_one h]
      intro e
      have e : UInt8.ofNat (48 + u) = 48 := by simpa using e
      have : (UInt8.ofNat (48 + u)).toNat = 48 := by rw [e]; rfl
      rw [ofNat_toNat (by omega)] at this
      omega
    · have hi := ih (u / 10) (by omega) (by omega)
      obtain ⟨x, t, e⟩ := List.exists_cons_of_ne_nil (dec_ne (u / 10))
      rw [e] at hi
      rw [dec_big (by omega), e]
      exact hi
theorem numB_itoa (n : Int) (h0 : 0 ≤ n) (h1 : n < 10000000000000) : numB (Lib.itoa n) = some n.toNat := by
  obtain ⟨u, rfl⟩ := Int.eq_ofNat_of_zero_le h0
  rw [Lib.itoa_nonneg]
  have hl := nDigits_le u 12 (by omega)
  rw [← Lib.decDigits_length] at hl
  have hp := Lib.nDigits_pos u
  rw [← Lib.decDigits_length] at hp
  unfold numB
  rw [if_pos, valB_dec]
  · rfl
  · simp only [Bool.and_eq_true, decide_eq_true_eq, Bool.or_eq_true, bne_iff_ne, beq_iff_eq]
    refine ⟨hp, hl, ?_, dec_all u⟩
    rcases Nat.lt_or_ge u 10 with h | h
    · right; rw [Lib.decDigits_one h]; rfl
    · left; exact dec_head u (by omega)
theorem dec_valB : ∀ (k : Nat) (s : Bs), s.length = k → s ≠ [] → (s.head? ≠ some 48 ∨ s.length = 1) → s.all isDig = true → Lib.decDigits (valB s) = s := by
  intro k
  induction k with
  | zero => intro s h hne; exact absurd (List.length_eq_zero_iff.1 h) hne
  | succ k ih =>
    intro s hk hne hh hd
    obtain ⟨t, b, rfl⟩ : ∃ t b, s = t ++ [b] := ⟨s.dropLast, s.getLast hne, (List.dropLast_concat_getLast hne).symm⟩
    rw [List.all_append, Bool.and_eq_true] at hd
    have hb : isDig b = true := by simpa using hd.2
    unfold isDig at hb
    simp only [Bool.and_eq_true, decide_eq_true_eq] at hb
    have eb : UInt8.ofNat (48 + (b.toNat - 48)) = b := by
      rw [show 48 + (b.toNat - 48) = b.toNat by omega]; simp
    rw [valB_snoc]
    rcases t with _ | ⟨x, t⟩
    · show Lib.decDigits (valB [] * 10 + (b.toNat - 48)) = [b]
      rw [show valB [] * 10 + (b.toNat - 48) = b.toNat - 48 by simp [valB], Lib.decDigits_one (by omega), eb]
    · have hh' : (x :: t).head? ≠ some 48 := by
        rcases hh with h | h
        · simpa using h
        · simp at h
      have ht := ih (x :: t) (by simp at hk ⊢; omega) (by simp) (.inl hh') hd.1
      have hv : 1 ≤ valB (x :: t) := by
        rcases Nat.eq_zero_or_pos (valB (x :: t)) with h | h
        · rw [h, Lib.decDigits_one (by omega)] at ht
          rw [← ht] at hh'
          exact absurd rfl hh'
        · exact h
      rw [dec_big (by omega), show (valB (x :: t) * 10 + (b.toNat - 48)) / 10 = valB (x :: t) by omega, show (valB (x :: t) * 10 + (b.toNat - 48)) % 10 = b.toNat - 48 by omega, ht, eb]
theorem valB_lt : ∀ (k : Nat) (s : Bs), s.length = k → s.all isDig = true → valB s < 10 ^ k := by
  intro k
  induction k with
  | zero => intro s h _; rw [List.length_eq_zero_iff.1 h]; simp [valB]
  | succ k ih =>
    intro s hk hd
    have hne : s ≠ [] := by intro e; rw [e] at hk; simp at hk
    obtain ⟨t, b, rfl⟩ : ∃ t b, s = t ++ [b] := ⟨s.dropLast, s.getLast hne, (List.dropLast_concat_getLast hne).symm⟩
    rw [List.all_append, Bool.and_eq_true] at hd
    have hb : isDig b = true := by simpa using hd.2
    unfold isDig at hb
    simp only [Bool.and_eq_true, decide_eq_true_eq] at hb
    have := ih t (by simp at hk; omega) hd.1
    rw [valB_snoc, Nat.pow_succ]
    omega
theorem numB_some {s : Bs} {n : Nat} (h : numB s = some n) : Lib.itoa (n : Int) = s ∧ n < 10000000000000 := by
  unfold numB at h
  split at h
  · rename_i hc
    simp only [Bool.and_eq_true, decide_eq_true_eq, Bool.or_eq_true, bne_iff_ne, beq_iff_eq] at hc
    obtain ⟨h1, h2, h3, h4⟩ := hc
    obtain rfl : valB s = n := by simpa using h
    refine ⟨?_, ?_⟩
    · rw [Lib.itoa_nonneg]
      exact dec_valB _ s rfl (by intro e; rw [e] at h1; simp at h1) h3 h4
    · exact Nat.lt_of_lt_of_le (valB_lt _ s rfl h4) (Nat.le_trans (Nat.pow_le_pow_right (by omega) h2) (by decide))
  · cases h
theorem itoa_nosp (n : Int) (h : 0 ≤ n) (c : UInt8) (hc : isDig c = false) : c ∉ Lib.itoa n := by
  obtain ⟨u, rfl⟩ := Int.eq_ofNat_of_zero_le h
  rw [Lib.itoa_nonneg]
  intro hm
  have := List.all_eq_true.1 (dec_all u) c hm
  rw [hc] at this
  cases this

/-! ### Hexadecimal digits -/
theorem digV_hexD : ∀ d, d < 16 → digV (hexD d) = d := by decide
theorem hexD_digV (c : UInt8) (h : digV c ≤ 15) : hexD (digV c) = c := by
  have key : ∀ n, n < 256 → digV (UInt8.ofNat n) ≤ 15 → hexD (digV (UInt8.ofNat n)) = UInt8.ofNat n := by decide +kernel
  have := key c.toNat (UInt8.toNat_lt c)
  simp only [UInt8.ofNat_toNat] at this
  exact this h
theorem hexB_hexL : ∀ l : Bs, hexB (hexL l) = some l
  | [] => rfl
  | b :: l => by
    have hb := UInt8.toNat_lt b
    show hexB (hexD (b.toNat / 16) :: hexD (b.toNat % 16) :: hexL l) = _
    unfold hexB
    rw [digV_hexD _ (by omega), digV_hexD _ (by omega), if_pos (by omega), hexB_hexL l]
    rw [show b.toNat / 16 * 16 + b.toNat % 16 = b.toNat by omega]
    simp
theorem hexL_hexB : ∀ (k : Nat) (s d : Bs), s.length ≤ k → hexB s = some d → hexL d = s := by
  intro k
  induction k with
  | zero =>
    intro s d h e
    obtain rfl := List.length_eq_zero_iff.1 (Nat.le_zero.1 h)
    unfold hexB at e
    cases e
    rfl
  | succ k ih =>
    intro s d h e
    match s with
    | [] => unfold hexB at e; cases e; rfl
    | [_] => unfold hexB at e; cases e
    | x :: y :: r =>
      unfold hexB at e
      split at e
      · rename_i hc
        rw [Option.map_eq_some_iff] at e
        obtain ⟨d', h1, rfl⟩ := e
        have := ih r d' (by simp at h; omega) h1
        show hexD ((UInt8.ofNat (digV x * 16 + digV y)).toNat / 16) :: hexD ((UInt8.ofNat (digV x * 16 + digV y)).toNat % 16) :: hexL d' = _
        rw [ofNat_toNat (by omega), show (digV x * 16 + digV y) / 16 = digV x by omega, show (digV x * 16 + digV y) % 16 = digV y by omega, hexD_digV x hc.1, hexD_digV y hc.2, this]
      · cases e
theorem hexD_dig : ∀ d, d < 16 → digV (hexD d) ≤ 15 := by decide
theorem hexL_nosp (l : Bs) (c : UInt8) (hc : digV c = 99) : c ∉ hexL l := by
  intro hm
  unfold hexL at hm
  rw [List.mem_flatMap] at hm
  obtain ⟨b, _, hb⟩ := hm
  have hlt := UInt8.toNat_lt b
  simp only [List.mem_cons, List.not_mem_nil, or_false] at hb
  rcases hb with rfl | rfl
  · have := hexD_dig (b.toNat / 16) (by omega); omega
  · have := hexD_dig (b.toNat % 16) (by omega); omega
theorem hexL_ne (l : Bs) (h : l ≠ []) : hexL l ≠ [] := by
  cases l with
  | nil => exact absurd rfl h
  | cons b l => simp [hexL]
end Go.Proofs.YtmaifldiondchaaDoor
