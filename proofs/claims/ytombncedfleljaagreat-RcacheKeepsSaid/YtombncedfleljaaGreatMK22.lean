/- Parts: A disk that the call has made itself, and blocks beside it. | Plain: what a record parses back to, and what a torn one does. | Plain: a disk without plans, and what a slot's scan tells of its sectors. | reclog: what a log's memory holds; its small functions. | reclog: Append, Room. -/
import Derived.Test.YtombncedfleljaaGreatMK17
import Derived.Test.YtombncedfleljaaGreatMK21
import Derived.Test.YtombncedfleljaaGreatMK18
import Derived.Test.YtombncedfleljaaGreatMK14
import Derived.Test.YtombncedfleljaaGreatMK16
import Derived.Test.YtombncedfleljaaGreatMK12
import Derived.Test.YtombncedfleljaaGreatMK19
import Derived.Test.YtombncedfleljaaGreatMK8
namespace Go.Proofs.YtombncedfleljaaGreat
open Go.RowKit
attribute [local irreducible] wpQuiet wpAnyH
set_option linter.unusedSimpArgs false

/-- The disk stands, and it was made behind w0. -/
structure St (w0 w : World) (m : DiskM) (d : DiskD) : Prop where
  dk : DK w m d
  ft : ∀ k ∈ foot m, w0.heap.size ≤ k
  bel : Below w0.heap.size w0 w
/-- A block beside the disk and the rows of its planned cuts. -/
def Apart (m : DiskM) (g : Nat) : Prop := g ∉ foot m ∧ ∀ k, isI64 k → ∀ v, m.cv k = some v → v.ownBlock ≠ some g
theorem Apart.next {w w' : World} {m m' : DiskM} {g : Nat} (h : Apart m g) (hg : g < w.heap.size) (ht : DT w m w' m') : Apart m' g :=
  ⟨fun hm => by
    rcases ht.sub g hm with hm | hm
    · exact h.1 hm
    · omega, fun k hk v hv e => by
    rcases ht.cv k v hv with h1 | h1
    · exact h.2 k hk v h1 e
    · have := h1 g e; omega⟩
theorem DK.cv_lt {w : World} {m : DiskM} {d : DiskD} (h : DK w m d) {k : Int} (hk : isI64 k) {v : Value} (hv : m.cv k = some v) : ∀ b, v.ownBlock = some b → b < w.heap.size := fun b e => by
  have := h.crv k hk
  cases hc : d.cr k with
  | none => rw [hc] at this; rw [this] at hv; cases hv
  | some cs =>
    rw [hc] at this
    obtain ⟨v2, h1, _, h3⟩ := this
    rw [hv] at h1
    injection h1 with h1
    subst h1
    exact (h3 b e).2
theorem Apart.fresh {w : World} {m : DiskM} {d : DiskD} {g : Nat} (h : DK w m d) (hg : w.heap.size ≤ g) : Apart m g :=
  ⟨h.notFoot hg, fun k hk v hv e => by have := h.cv_lt hk hv g e; omega⟩
theorem DK.offK {w w' : World} {m : DiskM} {d : DiskD} {b : Nat} (h : DK w m d) (hk : ∀ k, k ≠ b → w'.heap[k]? = w.heap[k]?) (hs : w.heap.size ≤ w'.heap.size) (ha : Apart m b) : DK w' m d where
  blk := (hk m.g (fun e => ha.1 (e ▸ foot_g m))).trans h.blk
  sec := own_blk h.sec fun x hx => hk x (fun e => ha.1 (e ▸ foot_sv hx))
  opn := own_blk h.opn fun x hx => hk x (fun e => ha.1 (e ▸ foot_ov hx))
  last := h.last.of_block (hk _ (fun e => ha.1 (e ▸ foot_bl m)))
  fl := h.fl.of_block (hk _ (fun e => ha.1 (e ▸ foot_bf m)))
  cr := h.cr.of_block (hk _ (fun e => ha.1 (e ▸ foot_bc m)))
  nd := h.nd
  flv := h.flv
  crv := fun k hi => by
    have := h.crv k hi
    cases hc : d.cr k with
    | none => rw [hc] at this; exact this
    | some cs =>
      rw [hc] at this
      obtain ⟨v, h1, h2, h3⟩ := this
      refine ⟨v, h1, ?_, fun b hb => ⟨(h3 b hb).1, Nat.lt_of_lt_of_le (h3 b hb).2 hs⟩⟩
      have hne := ha.2 k hi v h1
      obtain ⟨A, cap, rfl, q1, q2, hx⟩ := h2
      refine ⟨A, cap, rfl, q1, q2, fun hp => ?_⟩
      obtain ⟨g, o, rfl, hcell⟩ := hx hp
      exact ⟨g, o, rfl, fun j u hj => (World.cell?_of_block (a := ⟨g, o + j, none⟩) (hk g (fun e => hne (by rw [e]; rfl)))).trans (hcell j u hj)⟩
  ok := h.ok
structure LB (w : World) (m : DiskM) (g : Nat) (t : TypeId) (cs : Array Value) : Prop where
  blk : Blk w g t cs
  nf : g ∉ foot m
/-- A row beside the disk. -/
structure LS (w : World) (m : DiskM) (s : Nat) (v : Value) (n : Nat) (xs : List Value) : Prop where
  sn : Sn w s v n xs
  nf : ∀ b, v.ownBlock = some b → b ∉ foot m ∧ b < w.heap.size
theorem St.keep {w0 w w' : World} {m : DiskM} {d : DiskD} (h : St w0 w m d) (hb : Below w.heap.size w w') : St w0 w' m d := ⟨h.dk.keep hb, h.ft, bstep h.bel hb⟩
theorem St.next {w0 w w' : World} {m m' : DiskM} {d d' : DiskD} (h : St w0 w m d) (hk : DK w' m' d') (ht : DT w m w' m') : St w0 w' m' d' :=
  ⟨hk, ht.le h.ft h.bel.size, h.bel.trans (ht.below h.ft h.bel.size)⟩
theorem St.drew {w0 w : World} {m : DiskM} {d : DiskD} (h : St w0 w m d) (n : Nat) : St w0 (w.drewN n) m d := h.keep (bdrewN (Below.refl _ _) n)
theorem LB.keep {w w' : World} {m : DiskM} {g : Nat} {t : TypeId} {cs : Array Value} (h : LB w m g t cs) (hb : Below w.heap.size w w') : LB w' m g t cs := ⟨h.blk.keep hb, h.nf⟩
theorem LB.next {w w' : World} {m m' : DiskM} {g : Nat} {t : TypeId} {cs : Array Value} (h : LB w m g t cs) (ht : DT w m w' m') : LB w' m' g t cs :=
  ⟨(ht.off h.blk.lt h.nf).trans h.blk, fun hm => by
    rcases ht.sub g hm with hm | hm
    · exact h.nf hm
    · have := h.blk.lt; omega⟩
theorem LB.old {w0 w : World} {m : DiskM} {d : DiskD} {g : Nat} {t : TypeId} {cs : Array Value} (h : St w0 w m d) (hb : Blk w0 g t cs) : LB w m g t cs :=
  ⟨hb.keep h.bel, fun hm => by have := h.ft g hm; have := hb.lt; omega⟩
theorem LB.fresh {w w' : World} {m : DiskM} {d : DiskD} {g : Nat} {t : TypeId} {cs : Array Value} (h : DK w m d) (hg : w.heap.size ≤ g) (hb : Blk w' g t cs) : LB w' m g t cs := ⟨hb, h.notFoot hg⟩
theorem Fo.sn' {F : List Nat} {w w' : World} {s n : Nat} {v : Value} {xs : List Value} (h : Fo F w w') (hs : Sn w s v n xs) (hne : ∀ b, v.ownBlock = some b → b ∉ F) : Sn w' s v n xs := h.sn hs hne
theorem LS.keep {w w' : World} {m : DiskM} {s n : Nat} {v : Value} {xs : List Value} (h : LS w m s v n xs) (hb : Below w.heap.size w w') : LS w' m s v n xs :=
  ⟨h.sn.below hb, fun b e => ⟨(h.nf b e).1, Nat.lt_of_lt_of_le (h.nf b e).2 hb.size⟩⟩
theorem LS.next {w w' : World} {m m' : DiskM} {s n : Nat} {v : Value} {xs : List Value} (h : LS w m s v n xs) (ht : DT w m w' m') : LS w' m' s v n xs :=
  ⟨ht.fo.sn h.sn (fun b e => (h.nf b e).1), fun b e => ⟨fun hm => by
    rcases ht.sub b hm with hm | hm
    · exact (h.nf b e).1 hm
    · have := (h.nf b e).2; omega, Nat.lt_of_lt_of_le (h.nf b e).2 ht.fo.size⟩⟩
theorem LS.old {w0 w : World} {m : DiskM} {d : DiskD} {s n : Nat} {v : Value} {xs : List Value} (h : St w0 w m d) (hs : Sn w0 s v n xs) (hl : ∀ b, v.ownBlock = some b → b < w0.heap.size) : LS w m s v n xs :=
  ⟨hs.below h.bel, fun b e => ⟨fun hm => by have := h.ft b hm; have := hl b e; omega, Nat.lt_of_lt_of_le (hl b e) h.bel.size⟩⟩
theorem LS.own {w w' : World} {m : DiskM} {d : DiskD} {t s n : Nat} {v : Value} {xs : List Value} (h : DK w m d) (ho : w'.ownsRow w.heap.size t s v n xs) : LS w' m s v n xs :=
  ⟨Sn.own ho, fun b e => ⟨h.notFoot (World.ownsRow.lt ho b e).1, (World.ownsRow.lt ho b e).2⟩⟩
theorem Sn.blk_lt {w : World} {s n cap : Nat} {A : Option Addr} {xs : List Value} (h : Sn w s (.slice A n cap) n xs) (hn : 0 < n) (hs : 0 < s) : ∀ b, (Value.slice A n cap).ownBlock = some b → b < w.heap.size := by
  obtain ⟨A', cap', hv, _, hl, hx⟩ := h
  injection hv with hA _ _
  subst hA
  obtain ⟨b, off, rfl, hcell⟩ := hx hn
  intro b' e
  injection e with e
  subst e
  have hp : 0 < xs.length := by rw [hl]; exact Nat.mul_pos hn hs
  exact cell_lt (hcell 0 _ (List.getElem?_eq_getElem hp))
theorem Sn.take {w : World} {s n cap : Nat} {A : Option Addr} {xs : List Value} (h : Sn w s (.slice A n cap) n xs) (k : Nat) (hk : k ≤ n) : Sn w s (.slice A k cap) k (xs.take (k * s)) := by
  obtain ⟨A', cap', hv, hcap, hl, hx⟩ := h
  injection hv with hA _ hc
  subst hA hc
  have := Nat.mul_le_mul_right s hk
  refine ⟨_, _, rfl, by omega, by rw [List.length_take]; omega, fun hp => ?_⟩
  obtain ⟨b, off, rfl, hcell⟩ := hx (by omega)
  refine ⟨b, off, rfl, fun j u hj => hcell j u ?_⟩
  rw [List.getElem?_take] at hj
  split at hj
  · exact hj
  · cases hj
end Go.Proofs.YtombncedfleljaaGreat
namespace Go.Proofs.YtombncedfleljaaGreat
open Go.RowKit
attribute [local irreducible] wpQuiet wpAnyH
set_option linter.unusedSimpArgs false

theorem beN_foldl (l : List Int) : ∀ x, l.foldl (fun x c => x * 256 + c.toNat) x = x * 256 ^ l.length + beN l := by
  induction l with
  | nil => intro x; simp [beN]
  | cons c l ih =>
    intro x
    rw [List.foldl_cons, ih, show beN (c :: l) = (c :: l).foldl (fun x c => x * 256 + c.toNat) 0 from rfl, List.foldl_cons, ih, List.length_cons, Nat.pow_succ, Nat.zero_mul, Nat.zero_add]
    rw [Nat.add_mul, Nat.mul_assoc, Nat.mul_comm 256, Nat.add_assoc]
theorem beN_cons (c : Int) (l : List Int) : beN (c :: l) = c.toNat * 256 ^ l.length + beN l := by
  rw [show beN (c :: l) = (c :: l).foldl (fun x c => x * 256 + c.toNat) 0 from rfl, List.foldl_cons, beN_foldl, Nat.zero_mul, Nat.zero_add]
theorem beN_beB : ∀ k x, beN (beB k x) = x % 256 ^ k
  | 0, x => by simp [beN, beB, Nat.mod_one]
  | m + 1, x => by
    rw [beB, beN_cons, beN_beB m x, beB_length, Nat.mod_pow_succ, Int.toNat_natCast, Nat.mul_comm, Nat.add_comm]
theorem beN_inj : ∀ {a b : List Int}, Bys a → Bys b → a.length = b.length → beN a = beN b → a = b
  | [], b, _, _, hl, _ => (List.length_eq_zero_iff.1 hl.symm).symm
  | c :: a, [], _, _, hl, _ => by simp at hl
  | c :: a, e :: b, ha, hb, hl, h => by
    have hl' : a.length = b.length := by simpa using hl
    rw [beN_cons, beN_cons, hl'] at h
    have h1 := beN_lt a (fun x h => ha x (by simp [h]))
    have h2 := beN_lt b (fun x h => hb x (by simp [h]))
    rw [hl'] at h1
    have hc := ha c (by simp)
    have he := hb e (by simp)
    have hq : c.toNat = e.toNat := by
      have e1 := congrArg (· / 256 ^ b.length) h
      simp only [Nat.mul_comm _ (256 ^ b.length), Nat.mul_add_div (Nat.pow_pos (by omega : 0 < 256)), Nat.div_eq_of_lt h1, Nat.div_eq_of_lt h2, Nat.add_zero] at e1
      exact e1
    have hr : beN a = beN b := by rw [hq] at h; omega
    rw [beN_inj (fun x h => ha x (by simp [h])) (fun x h => hb x (by simp [h])) hl' hr, show c = e by omega]

theorem body_eq (p : List Int) (h : p.length ≤ 54) : (body p).take 56 = beB 2 p.length ++ (p ++ List.replicate (54 - p.length) 0) := by
  unfold body pad
  rw [List.append_assoc, List.length_append, beB_length]
  rw [show 64 - (2 + p.length) = (54 - p.length) + 8 by omega, ← List.replicate_append_replicate, ← List.append_assoc p, ← List.append_assoc (beB 2 p.length)]
  rw [List.take_left' (by simp [beB_length]; omega)]
/-- The four parts of a record. -/
theorem rec_parts (g : Nat) (p : List Int) (h : p.length ≤ 54) : ∃ A C : List Int, A = beB 2 p.length ++ (p ++ List.replicate (54 - p.length) 0) ∧ A.length = 56 ∧ C = beB 4 (crcSum (A ++ beB 4 g)) ∧ rec g p = A ++ (C ++ beB 4 g) := by
  refine ⟨_, _, rfl, by simp [beB_length]; omega, rfl, ?_⟩
  unfold rec
  rw [body_eq p h]
theorem zeros_rep (n : Nat) : zeros (List.replicate n 0) = true := by
  unfold zeros
  rw [List.all_eq_true]
  intro c hc
  rw [(List.mem_replicate.1 hc).2]
  rfl
theorem rec_drop60 (g : Nat) (p : List Int) (h : p.length ≤ 54) : (rec g p).drop 60 = beB 4 g := by
  obtain ⟨A, C, _, hA, hC, hr⟩ := rec_parts g p h
  have hc : C.length = 4 := by rw [hC, beB_length]
  rw [hr, ← List.append_assoc, List.drop_left' (by simp [hA, hc])]
theorem prs_rec (g : Nat) (p : List Int) (h : p.length ≤ 54) (hg : g < 4294967296) : prs (rec g p) = some (g, p) := by
  obtain ⟨A, C, hAd, hA, hC, hr⟩ := rec_parts g p h
  have hc : C.length = 4 := by rw [hC, beB_length]
  have h4 := beB_length 4 g
  have e1 : (rec g p).take 2 = beB 2 p.length := by
    rw [hr, List.take_append_of_le_length (by omega), hAd, List.take_left' (beB_length 2 _)]
  have e2 : (rec g p).drop 2 = p ++ (List.replicate (54 - p.length) 0 ++ (C ++ beB 4 g)) := by
    rw [hr, hAd, List.append_assoc, List.drop_left' (beB_length 2 _), List.append_assoc]
  have n1 : beN (beB 2 p.length) = p.length := by rw [beN_beB]; exact Nat.mod_eq_of_lt (by omega)
  have e3 : (rec g p).drop (2 + p.length) = List.replicate (54 - p.length) 0 ++ (C ++ beB 4 g) := by
    rw [← List.drop_drop, e2, List.drop_left]
  have e4 : (rec g p).drop 56 = C ++ beB 4 g := by rw [hr, List.drop_left' hA]
  have e5 := rec_drop60 g p h
  have e6 : (rec g p).take 56 = A := by rw [hr, List.take_left' hA]
  have n2 : beN C = crcSum (A ++ beB 4 g) := by rw [hC, beN_beB]; exact Nat.mod_eq_of_lt (crcSum_lt _)
  have n3 : beN (beB 4 g) = g := by rw [beN_beB]; exact Nat.mod_eq_of_lt (by omega)
  unfold prs
  rw [e1, n1, e3, e4, e5, e6, if_neg (by omega), List.take_left' (by simp), zeros_rep, List.take_left' hc, n2, List.take_of_length_le (by omega), n3, e2, List.take_left]
  simp
theorem prsH_rec (g : Nat) (hg : g < 4294967296) : prsH (rec g toll) = some g := by
  unfold prsH
  rw [prs_rec g toll (by decide) hg]
  simp
theorem prsE_rec (g : Nat) (q : List Int × Int) (hq : EntOk q) (hr : rightE q = true) (hg : g < 4294967296) : prsE (entRec g q) = some (g, q) := by
  have h32 := hq.dig.len
  have hr' : 0 ≤ q.2 ∧ q.2 ≤ 4611686018427387904 := by unfold rightE at hr; simpa using hr
  unfold prsE entRec
  rw [prs_rec g _ (by rw [List.length_append, h32, beB_length]; omega) hg]
  have n1 : beN (beB 8 q.2.toNat) = q.2.toNat := by rw [beN_beB]; exact Nat.mod_eq_of_lt (by omega)
  simp only [List.drop_left' h32, List.take_left' h32, n1, List.length_append, h32, beB_length]
  rw [if_pos ⟨by decide, by omega⟩]
  rw [show ((q.2.toNat : Nat) : Int) = q.2 by omega]
theorem prs_gen {s : List Int} {g : Nat} {p : List Int} (h : prs s = some (g, p)) : g = beN ((s.drop 60).take 4) := by
  unfold prs at h
  split at h
  · cases h
  · split at h
    · cases h
    · split at h
      · cases h
      · injection h with h; injection h with h _; exact h.symm
theorem prsE_gen {s : List Int} {g : Nat} {e : List Int × Int} (h : prsE s = some (g, e)) : g = beN ((s.drop 60).take 4) := by
  unfold prsE at h
  split at h
  · cases h
  · rename_i g' p h1
    split at h
    · injection h with h; injection h with h _; rw [← h]; exact prs_gen h1
    · cases h
theorem beN_zeros (n : Nat) : beN (List.replicate n 0) = 0 := by
  induction n with
  | zero => rfl
  | succ n ih => rw [List.replicate_succ, beN_cons, ih]; simp
theorem prs_zsec {g : Nat} {p : List Int} (h : prs zsec = some (g, p)) : p = [] := by
  unfold prs at h
  rw [show zsec.take 2 = List.replicate 2 0 by unfold zsec; rw [List.take_replicate]; rfl, beN_zeros] at h
  split at h
  · cases h
  · split at h
    · cases h
    · split at h
      · cases h
      · injection h with h; injection h with _ h; rw [← h, List.take_zero]
theorem prsE_zsec : prsE zsec = none := by
  unfold prsE
  split
  · rfl
  · rename_i g p h
    rw [prs_zsec h, if_neg (by simp)]
theorem prsH_zsec : prsH zsec = none := by
  unfold prsH
  split
  · rename_i g p h
    rw [prs_zsec h, if_neg (by decide)]
  · rfl
theorem tearL_all {old data : List Int} (c : Int) (ho : old.length = 64) (hd : data.length = 64) (h : 64 ≤ c) : tearL old data c = data := by
  unfold tearL
  rw [show cutN c = 64 by unfold cutN; omega, List.take_of_length_le (by omega), List.drop_eq_nil_of_le (by omega), List.append_nil]
/-- A record of a generation other than 0 that is torn over a sector of zeros is whole, or is none of this generation. -/
theorem torn_rec (g : Nat) (p : List Int) (hp : p.length ≤ 54) (hg : g < 4294967296) (hg0 : g ≠ 0) (c : Int) :
    tearL zsec (rec g p) c = rec g p ∨ (c < 64 ∧ ∀ g' e, prsE (tearL zsec (rec g p) c) = some (g', e) → g' ≠ g) := by
  have hl := rec_length g p hp
  have hz : zsec.length = 64 := by simp [zsec]
  rcases Int.lt_or_le c 64 with h | h
  rotate_left 1
  · exact .inl (tearL_all c hz hl h)
  have hk : cutN c < 64 := by unfold cutN; omega
  have ht : tearL zsec (rec g p) c = (rec g p).take (cutN c) ++ List.replicate (64 - cutN c) 0 := by
    unfold tearL zsec
    rw [List.drop_replicate]
  generalize cutN c = k at hk ht
  have h60 := rec_drop60 g p hp
  have hsplit : (rec g p) = (rec g p).take 60 ++ beB 4 g := by rw [← h60, List.take_append_drop]
  have h4 := beB_length 4 g
  have ng : beN (beB 4 g) = g := by rw [beN_beB]; exact Nat.mod_eq_of_lt (by omega)
  rcases Nat.lt_or_ge k 60 with hk6 | hk6
  · refine .inr ⟨h, fun g' e he => ?_⟩
    have := prsE_gen he
    rw [ht, List.drop_append, List.drop_eq_nil_of_le (by simp; omega), List.nil_append, List.drop_replicate, List.take_replicate, beN_zeros] at this
    omega
  · have hd : (tearL zsec (rec g p) c).drop 60 = (beB 4 g).take (k - 60) ++ List.replicate (64 - k) 0 := by
      rw [ht, List.drop_append_of_le_length (by simp; omega), List.drop_take, h60]
    by_cases he : (tearL zsec (rec g p) c).drop 60 = beB 4 g
    · left
      have h1 : (tearL zsec (rec g p) c).take 60 = (rec g p).take 60 := by
        rw [ht, List.take_append_of_le_length (by simp; omega), List.take_take, Nat.min_eq_left hk6]
      rw [← List.take_append_drop 60 (tearL zsec (rec g p) c), h1, he, ← hsplit]
    · refine .inr ⟨h, fun g' e hpe hgg => he ?_⟩
      have h2 := prsE_gen hpe
      have h3 : ((tearL zsec (rec g p) c).drop 60).length = 4 := by rw [hd]; simp [beB_length]; omega
      rw [List.take_of_length_le (by omega), hgg] at h2
      refine beN_inj ?_ (beB_bys 4 g) (by rw [h3, h4]) (by rw [ng]; exact h2.symm)
      rw [hd]
      intro b hb'
      rcases List.mem_append.1 hb' with hb' | hb'
      · exact beB_bys 4 g b (List.mem_of_mem_take hb')
      · rw [(List.mem_replicate.1 hb').2]; omega
end Go.Proofs.YtombncedfleljaaGreat
namespace Go.Proofs.YtombncedfleljaaGreat
open Go.RowKit
attribute [local irreducible] wpQuiet wpAnyH
set_option linter.unusedSimpArgs false

/-- A disk that is not down, without plans. -/
def qD (sec : List (List Int)) (opn : List (Int × List Int)) (st r : Nat) : DiskD := { sec := sec, opn := opn, down := false, steps := st, fl := fun _ => false, cr := fun _ => none, room := r }
theorem newD_q (n : Nat) : newD n = qD (List.replicate n zsec) [] 0 0 := rfl
theorem stepped_q (sec : List (List Int)) (opn : List (Int × List Int)) (st r : Nat) : stepped (qD sec opn st r) = qD sec opn (st + 1) (max r (st + 1)) := by
  unfold stepped qD
  simp
theorem outS_q (sec : List (List Int)) (opn : List (Int × List Int)) (st r : Nat) : outS (qD sec opn st r) = 0 := rfl
theorem has_q {sec : List (List Int)} {opn : List (Int × List Int)} {st r : Nat} {a : Int} (h : 0 ≤ a) (h' : a < sec.length) : hasB (qD sec opn st r) a = true := by
  unfold hasB
  rw [decide_eq_true h, Bool.true_and]
  exact decide_eq_true h'
theorem writeA_q {sec : List (List Int)} {opn : List (Int × List Int)} {st r : Nat} {a : Int} (h : 0 ≤ a) (h' : a < sec.length) : writeA (qD sec opn st r) a = none := by
  unfold writeA
  rw [outS_q, has_q h h']
  rfl
theorem writeD_q {sec : List (List Int)} {opn : List (Int × List Int)} {st r : Nat} {a : Int} (h : 0 ≤ a) (h' : a < sec.length) (s : List Int) : writeD (qD sec opn st r) a s = qD sec (opn ++ [(a, s)]) (st + 1) (max r (st + 1) + 1) := by
  unfold writeD
  rw [outS_q, stepped_q]
  unfold addIf
  rw [has_q h h']
  rfl
theorem syncA_q (sec : List (List Int)) (opn : List (Int × List Int)) (st r : Nat) : syncA (qD sec opn st r) = none := rfl
theorem syncS_q (sec : List (List Int)) (opn : List (Int × List Int)) (st r : Nat) : syncS (qD sec opn st r) = qD (syncN sec opn opn.length) [] (st + 1) (max r (st + 1)) := by
  unfold syncS
  rw [outS_q, stepped_q]
  rfl
theorem wsA_q {sec : List (List Int)} {opn : List (Int × List Int)} {st r : Nat} {a : Int} (h : 0 ≤ a) (h' : a < sec.length) (s : List Int) : wsA (qD sec opn st r) a s = none := by
  unfold wsA
  rw [writeA_q h h', writeD_q h h']
  rfl
theorem wsD_q {sec : List (List Int)} {st r : Nat} {a : Int} (h : 0 ≤ a) (h' : a < sec.length) (s : List Int) : ∃ r', st + 2 ≤ r' ∧ r' ≤ max r (st + 2) + 1 ∧ wsD (qD sec [] st r) a s = qD (sec.set a.toNat s) [] (st + 2) r' := by
  refine ⟨max (max r (st + 1) + 1) (st + 2), by omega, by omega, ?_⟩
  unfold wsD
  rw [writeA_q h h', writeD_q h h']
  show syncS _ = _
  rw [syncS_q]
  rfl
theorem secs_still {d : DiskD} (hd : d.down = false) (ho : d.opn = []) : ∀ (n : Nat) (a : Int), 0 ≤ a → a.toNat + n ≤ d.sec.length → secsL d a n = ((d.sec.drop a.toNat).take n).map (fun s => (s, none))
  | 0, a, _, _ => by simp [secsL]
  | n + 1, a, h0, h => by
    have hlt : a.toNat < d.sec.length := by omega
    have hh : hasB d a = true := by unfold hasB; simp; omega
    have e1 : rdA d a = none := by unfold rdA; rw [hd, hh]; rfl
    have e2 : rdS d a = d.sec[a.toNat] := by
      unfold rdS
      rw [hd, hh]
      show rdD d a = _
      unfold rdD
      rw [ho]
      simp [hlt]
    rw [secsL, e1, if_pos rfl, e2, secs_still hd ho n (a + 1) (by omega) (by omega), List.drop_eq_getElem_cons hlt, List.take_succ_cons, List.map_cons, show (a + 1).toNat = a.toNat + 1 by omega]
/-- What a scan makes of the sectors. -/
def scanL : SSt → List (List Int) → SSt
  | st, [] => st
  | st, s :: r => match stepS st s with | some st' => scanL st' r | none => st
theorem scan_still : ∀ (L : List (List Int)) (st : SSt), scanR st (L.map (fun s => (s, none))) = (scanL st L, none)
  | [], st => rfl
  | s :: r, st => by
    rw [List.map_cons]
    unfold scanR scanL
    cases h : stepS st s with
    | none => rfl
    | some st' => exact scan_still r st'
theorem scan_head (g : Nat) (hg : g < 4294967296) (L : List (List Int)) : scanL (none, []) (rec g toll :: L) = scanL (some g, []) L := by
  rw [scanL]
  unfold stepS
  simp only [prsH_rec g hg, Option.map_some]
theorem scan_ents (g : Nat) (hg : g < 4294967296) : ∀ (qs : List Ent2) (es : List Ent2) (L : List (List Int)), (∀ q ∈ qs, EntOk q ∧ rightE q = true) → scanL (some g, es) (qs.map (entRec g) ++ L) = scanL (some g, es ++ qs) L
  | [], es, L, _ => by simp
  | q :: qs, es, L, h => by
    have hq := h q (by simp)
    rw [List.map_cons, List.cons_append, scanL]
    unfold stepS
    simp only [prsE_rec g q hq.1 hq.2 hg, if_true]
    rw [scan_ents g hg qs _ L (fun x hx => h x (by simp [hx])), List.append_assoc]
    rfl
theorem scan_stop {g : Nat} {es : List Ent2} {s : List Int} {L : List (List Int)} (h : ∀ g' e, prsE s = some (g', e) → g' ≠ g) : scanL (some g, es) (s :: L) = (some g, es) := by
  rw [scanL]
  unfold stepS
  cases hp : prsE s with
  | none => rfl
  | some x =>
    obtain ⟨g', e⟩ := x
    simp only [if_neg (h g' e hp)]
theorem scan_zero (L : List (List Int)) : scanL (none, []) (zsec :: L) = (none, []) := by
  rw [scanL]
  unfold stepS
  simp only [prsH_zsec, Option.map_none]
theorem scan_longer (g : Nat) : ∀ (L : List (List Int)) (es : List Ent2), ∃ more, scanL (some g, es) L = (some g, es ++ more) ∧ more.length ≤ L.length
  | [], es => ⟨[], by simp [scanL], Nat.le_refl _⟩
  | s :: L, es => by
    rw [scanL]
    unfold stepS
    cases hp : prsE s with
    | none => exact ⟨[], by simp, by simp⟩
    | some x =>
      obtain ⟨g', e⟩ := x
      by_cases hg : g' = g
      · obtain ⟨m, hm, hl⟩ := scan_longer g L (es ++ [e])
        refine ⟨e :: m, ?_, by simp; omega⟩
        simp only [if_pos hg, hm, List.append_assoc, List.singleton_append]
      · refine ⟨[], ?_, by simp⟩
        simp only [if_neg hg, List.append_nil]
end Go.Proofs.YtombncedfleljaaGreat
namespace Go.Proofs.YtombncedfleljaaGreat
open Go.RowKit
attribute [local irreducible] wpQuiet wpAnyH
set_option linter.unusedSimpArgs false

structure LogD where
  side : Nat
  last : Nat
  gen : Nat
  cnt : Nat
  brk : Bool
def logC (g h : Nat) (L : LogD) : Array Value := #[.pointer (some ⟨g, 0, none⟩), .int .i64 0, .int .i64 h, .int .i64 h, .int .i64 h, .int .i64 L.side, .int .u32 L.last, .int .u32 L.gen, .int .i64 L.cnt, .bool L.brk]
structure LogOk (d : DiskD) (h : Nat) (L : LogD) : Prop where
  side : L.side < 2
  last : L.last < 4294967296
  gen : L.gen < 4294967296
  cnt : L.cnt ≤ 10000
  half : h = d.sec.length / 2
structure LK (w : World) (m : DiskM) (d : DiskD) (gl h : Nat) (L : LogD) : Prop where
  dk : DK w m d
  blk : Blk w gl 109 (logC m.g h L)
  ap : Apart m gl
  ok : LogOk d h L
/-- What an operation on a log does to the rest of the world. -/
structure LT (gl : Nat) (w : World) (m : DiskM) (w' : World) (m' : DiskM) : Prop where
  g : m'.g = m.g
  fo : Fo (gl :: foot m) w w'
  sub : ∀ k ∈ foot m', k ∈ foot m ∨ w.heap.size ≤ k
  cv : ∀ k v, m'.cv k = some v → m.cv k = some v ∨ ∀ b, v.ownBlock = some b → w.heap.size ≤ b
section
variable {w w' w'' : World} {m m' m'' : DiskM} {d d' : DiskD} {gl h : Nat} {L L' : LogD}
theorem Fo.wide {F G : List Nat} (h : Fo F w w') (hs : ∀ x ∈ F, x ∈ G) : Fo G w w' := ⟨h.os, h.tape, h.output, h.size, fun k hk hn => h.block k hk (fun hm => hn (hs k hm))⟩
theorem LT.of_dt (h : DT w m w' m') : LT gl w m w' m' := ⟨h.g, h.fo.wide (fun _ hx => List.mem_cons_of_mem _ hx), h.sub, h.cv⟩
theorem LT.of_below (h : Below w.heap.size w w') : LT gl w m w' m := LT.of_dt (DT.of_below h)
theorem LT.trans (h : LT gl w m w' m') (k : LT gl w' m' w'' m'') : LT gl w m w'' m'' :=
  ⟨k.g.trans h.g, h.fo.trans k.fo (fun x hx => by
    rcases List.mem_cons.1 hx with rfl | hx
    · exact .inl (List.mem_cons_self ..)
    · exact (h.sub x hx).imp (fun h => List.mem_cons_of_mem _ h) id), fun x hx => by
    rcases k.sub x hx with h1 | h1
    · exact h.sub x h1
    · exact .inr (Nat.le_trans h.fo.size h1), fun x v hx => by
    rcases k.cv x v hx with h1 | h1
    · exact h.cv x v h1
    · exact .inr (fun b e => Nat.le_trans h.fo.size (h1 b e))⟩
theorem LT.set (h : LT gl w m w' m') (i : Nat) (u : Value) : LT gl w m (w'.setCell ⟨gl, i, none⟩ u) m' := ⟨h.g, h.fo.set gl i (List.mem_cons_self ..) u, h.sub, h.cv⟩
theorem LT.below {B : Nat} (h : LT gl w m w' m') (hF : ∀ k ∈ foot m, B ≤ k) (hg : B ≤ gl) (hB : B ≤ w.heap.size) : Below B w w' := h.fo.below (fun k hk => (List.mem_cons.1 hk).elim (fun e => by omega) (hF k)) hB
theorem LT.le {B : Nat} (h : LT gl w m w' m') (hF : ∀ k ∈ foot m, B ≤ k) (hB : B ≤ w.heap.size) : ∀ k ∈ foot m', B ≤ k := fun k hk => by
  rcases h.sub k hk with h1 | h1
  · exact hF k h1
  · omega
theorem LK.keep (k : LK w m d gl h L) (hb : Below w.heap.size w w') : LK w' m d gl h L := ⟨k.dk.keep hb, k.blk.keep hb, k.ap, k.ok⟩
theorem LogOk.len (k : LogOk d h L) (hl : d'.sec.length = d.sec.length) : LogOk d' h L := ⟨k.side, k.last, k.gen, k.cnt, by rw [hl]; exact k.half⟩
theorem LK.disk (k : LK w m d gl h L) (hk : DK w' m' d') (ht : DT w m w' m') (hl : d'.sec.length = d.sec.length) : LK w' m' d' gl h L :=
  ⟨hk, by rw [ht.g]; exact (ht.off k.blk.lt k.ap.1).trans k.blk, k.ap.next k.blk.lt ht, k.ok.len hl⟩
theorem LK.set (k : LK w m d gl h L) (i : Nat) (u : Value) (hc : (logC m.g h L).setIfInBounds i u = logC m.g h L') (ho : LogOk d h L') : LK (w.setCell ⟨gl, i, none⟩ u) m d gl h L' :=
  have hb : Below gl w (w.setCell ⟨gl, i, none⟩ u) := (Below.refl gl w).setCell (p := ⟨gl, i, none⟩) (Nat.le_refl _) _
  ⟨k.dk.offK (fun j hj => Below.heap_setCell _ ⟨gl, i, none⟩ _ j hj) hb.size k.ap, by rw [← hc]; exact k.blk.set_ i u, k.ap, ho⟩
theorem LK.cells (k : LK w m d gl h L) : w.cell? ⟨gl, 0, none⟩ = some (.pointer (some ⟨m.g, 0, none⟩)) ∧ w.cell? ⟨gl, 5, none⟩ = some (.int .i64 L.side) ∧ w.cell? ⟨gl, 6, none⟩ = some (.int .u32 L.last) ∧ w.cell? ⟨gl, 7, none⟩ = some (.int .u32 L.gen) ∧ w.cell? ⟨gl, 8, none⟩ = some (.int .i64 L.cnt) ∧ w.cell? ⟨gl, 9, none⟩ = some (.bool L.brk) :=
  ⟨(k.blk.cell 0).trans rfl, (k.blk.cell 5).trans rfl, (k.blk.cell 6).trans rfl, (k.blk.cell 7).trans rfl, (k.blk.cell 8).trans rfl, (k.blk.cell 9).trans rfl⟩
end
/-- Where the slot of a side begins. -/
def sFrom (h s : Nat) : Nat := if s = 0 then 0 else h
theorem blk_slot {w : World} {gl g h : Nat} {L : LogD} (k : Blk w gl 109 (logC g h L)) (s : Nat) (hs : s < 2) : w.rangeAt gl (1 + s * 2) [.int .i64 (sFrom h s), .int .i64 h] := by
  intro j u hj
  rw [k.cell]
  have hs2 : s = 0 ∨ s = 1 := by omega
  rcases hs2 with rfl | rfl
  all_goals
    match j with
    | 0 => simpa [logC, sFrom] using hj
    | 1 => simpa [logC, sFrom] using hj
    | j + 2 => simp at hj

set_option maxRecDepth 100000 in
theorem disk_size (w : World) (m : DiskM) (d : DiskD) (h : DK w m d) :
    Calls Tryz.prog 63 #[.pointer (some ⟨m.g, 0, none⟩)] w fun e w' => e = .returned (.int .i64 d.sec.length) ∧ w' = w := by
  obtain ⟨A, cap, hv, _⟩ := Sn.own h.sec
  have hc := h.blk.cell 0
  simp only [diskC, List.getElem?_toArray, List.getElem?_cons_zero, hv] at hc
  go_enter Tryz.func63, Tryz.ntmps63
  go_wp2_with fail
  go_ret
  exact ⟨rfl, rfl⟩
set_option maxRecDepth 100000 in
set_option maxHeartbeats 1000000 in
theorem frame_tag (s : List Int) (w : World) (hl : s.length = 64) (hb : Bys s) :
    Calls Tryz.prog 91 #[.agg (u8s s).toArray] w fun e w' => e = .returned (.int .u32 (beN ((s.drop 60).take 4))) ∧ Below w.heap.size w w' := by
  obtain ⟨w1, hw1⟩ : ∃ w1, w1 = w.alloc (.cells (u8s s).toArray 144) := ⟨_, rfl⟩
  have hB1 : Blk w1 w.heap.size 144 (u8s s).toArray := by rw [hw1]; exact Blk.new _ _ _
  have hb1 : Below w.heap.size w w1 := by rw [hw1]; exact bel1 _ _
  have hd : (s.drop 60).length = 4 := by rw [List.length_drop, hl]
  have HSN : Hid (Sn w1 1 (.slice (some ⟨w.heap.size, 60, none⟩) 4 4) (s.drop 60).length (u8s (s.drop 60))) := Lib.hid (by
    have := Sn.of_blk hB1 60 4 4 (by omega) (by omega)
    rw [List.take_of_length_le (by omega)] at this
    rw [hd]; exact this)
  have HBY : Hid (Bys (s.drop 60)) := Lib.hid (fun c hc => hb c (List.mem_of_mem_drop hc))
  have HW1 := Lib.hid hb1
  have HD := Lib.hid hd
  have HLT : Hid (beN ((s.drop 60).take 4) < 4294967296) := Lib.hid (by
    have := beN_lt ((s.drop 60).take 4) (fun c hc => HBY.out c (List.mem_of_mem_take hc))
    rw [List.length_take, hd] at this
    exact this)
  clear hB1 hb1 hd hl hb
  go_enter Tryz.func91, Tryz.ntmps91
  go_upto_region 1 with fail
  rw [← hw1]
  clear hw1
  go_wp2_with fail
  refine (wire_new _ (s.drop 60) w1 HSN.out (by rw [HD.out]; omega)).mono ?_
  rintro e w2 ⟨r, v, rfl, hR, hr, hb2⟩
  have HR := Lib.hid hR
  have HB2 := Lib.hid (bstep HW1.out hb2)
  have HRW : Hid (w.heap.size ≤ r) := Lib.hid (by have := HW1.out.size; omega)
  clear hR hr hb2
  go_wp2_with fail
  refine (rd_Number r v (s.drop 60) false 4 w2 HR.out HBY.out (by rw [HD.out]; omega) (by omega) (by omega)).mono ?_
  rintro e w3 ⟨ho3, ⟨_, _, v3, rfl, hR3⟩ | ⟨hbad, _, _⟩⟩
  · have HB3 : Hid (Below w.heap.size w w3) := Lib.hid (HB2.out.trans (ho3.below HRW.out HB2.out.size))
    obtain ⟨X, hX⟩ : ∃ X, X = beN ((s.drop 60).take 4) := ⟨_, rfl⟩
    have hlt : X < 4294967296 := by rw [hX]; exact HLT.out
    rw [← hX]
    have HX := Lib.hid hX
    have hi : (X : Int) ≤ 4294967295 := by omega
    have h0 : (0 : Int) ≤ X := by omega
    clear hX ho3 hR3
    go_wp2_with fail
    go_ret
    exact ⟨by rw [← HX.out]; rfl, HB3.out⟩
  · rcases hbad with h | h
    · cases h
    · rw [HD.out] at h; omega
/-- A log that breaks at a code. -/
def noteL (L : LogD) (c : Int) : LogD := if c = 11 ∨ c = 12 then { L with brk := true } else L
theorem noteL_ok {d : DiskD} {h : Nat} {L : LogD} (k : LogOk d h L) (c : Int) : LogOk d h (noteL L c) := by
  unfold noteL
  split
  · exact ⟨k.side, k.last, k.gen, k.cnt, k.half⟩
  · exact k
set_option maxRecDepth 100000 in
set_option maxHeartbeats 1000000 in
theorem log_note (x : Ans) (w : World) (m : DiskM) (d : DiskD) (gl h : Nat) (L : LogD) (k : LK w m d gl h L) :
    Calls Tryz.prog 56 #[.pointer (some ⟨gl, 0, none⟩), valE x] w fun e w' => e = .returned (valE x) ∧ LK w' m d gl h (noteL L (codeA x)) ∧ LT gl w m w' m := by
  obtain ⟨v, hv⟩ : ∃ v, v = valE x := ⟨_, rfl⟩
  have HC := Lib.hid (code_val x w)
  rw [← hv] at HC ⊢
  obtain ⟨c, hc⟩ : ∃ c, c = codeA x := ⟨_, rfl⟩
  rw [← hc] at HC ⊢
  have HK := Lib.hid k
  clear hv hc k
  rcases Bool.eq_false_or_eq_true (c == 11) with t1 | t1
  · have HN : Hid (noteL L c = { L with brk := true }) := Lib.hid (by unfold noteL; rw [if_pos (.inl (by simpa using t1))])
    go_enter Tryz.func56, Tryz.ntmps56
    go_wp2_with fail
    refine HC.out.mono ?_
    rintro e w2 ⟨rfl, hb2⟩
    have HK2 := Lib.hid (HK.out.keep hb2)
    have HT2 : Hid (LT gl w m w2 m) := Lib.hid (LT.of_below hb2)
    obtain ⟨c0, c5, c6, c7, c8, c9⟩ := HK2.out.cells
    have f9 := HK2.out.blk.frozen 9
    clear hb2
    go_wp2_with fail
    go_ret
    exact ⟨rfl, by rw [HN.out]; exact HK2.out.set 9 _ rfl ⟨HK2.out.ok.side, HK2.out.ok.last, HK2.out.ok.gen, HK2.out.ok.cnt, HK2.out.ok.half⟩, HT2.out.set 9 _⟩
  · rcases Bool.eq_false_or_eq_true (c == 12) with t2 | t2
    · have HN : Hid (noteL L c = { L with brk := true }) := Lib.hid (by unfold noteL; rw [if_pos (.inr (by simpa using t2))])
      go_enter Tryz.func56, Tryz.ntmps56
      go_wp2_with fail
      refine HC.out.mono ?_
      rintro e w2 ⟨rfl, hb2⟩
      have HK2 := Lib.hid (HK.out.keep hb2)
      have HT2 : Hid (LT gl w m w2 m) := Lib.hid (LT.of_below hb2)
      obtain ⟨c0, c5, c6, c7, c8, c9⟩ := HK2.out.cells
      have f9 := HK2.out.blk.frozen 9
      clear hb2
      go_wp2_with fail
      go_ret
      exact ⟨rfl, by rw [HN.out]; exact HK2.out.set 9 _ rfl ⟨HK2.out.ok.side, HK2.out.ok.last, HK2.out.ok.gen, HK2.out.ok.cnt, HK2.out.ok.half⟩, HT2.out.set 9 _⟩
    · have HN : Hid (noteL L c = L) := Lib.hid (by unfold noteL; rw [if_neg (fun h => h.elim (fun e => by simp [e] at t1) (fun e => by simp [e] at t2))])
      go_enter Tryz.func56, Tryz.ntmps56
      go_wp2_with fail
      refine HC.out.mono ?_
      rintro e w2 ⟨rfl, hb2⟩
      have HK2 := Lib.hid (HK.out.keep hb2)
      have HT2 : Hid (LT gl w m w2 m) := Lib.hid (LT.of_below hb2)
      clear hb2
      go_wp2_with fail
      go_ret
      exact ⟨rfl, by rw [HN.out]; exact HK2.out, HT2.out⟩
/-- The getters, of a log that is there. -/
def LogP (w : World) (gl : Nat) (g h : Nat) (L : LogD) : Prop := Blk w gl 109 (logC g h L)
set_option maxRecDepth 100000 in
theorem log_count (w : World) (gl g h : Nat) (L : LogD) (k : LogP w gl g h L) : Calls Tryz.prog 51 #[.pointer (some ⟨gl, 0, none⟩)] w fun e w' => e = .returned (.int .i64 L.cnt) ∧ w' = w := by
  have c8 : w.cell? ⟨gl, 8, none⟩ = some (.int .i64 L.cnt) := (Blk.cell k 8).trans rfl
  go_enter Tryz.func51, Tryz.ntmps51
  go_wp2_with fail
  go_ret
  exact ⟨rfl, rfl⟩
set_option maxRecDepth 100000 in
theorem log_broken (w : World) (gl g h : Nat) (L : LogD) (k : LogP w gl g h L) : Calls Tryz.prog 29 #[.pointer (some ⟨gl, 0, none⟩)] w fun e w' => e = .returned (.bool L.brk) ∧ w' = w := by
  have c8 : w.cell? ⟨gl, 9, none⟩ = some (.bool L.brk) := (Blk.cell k 9).trans rfl
  go_enter Tryz.func29, Tryz.ntmps29
  go_wp2_with fail
  go_ret
  exact ⟨rfl, rfl⟩
set_option maxRecDepth 100000 in
theorem log_broken_nil (w : World) : Calls Tryz.prog 29 #[.pointer none] w fun e w' => e = .returned (.bool true) ∧ w' = w := by
  go_enter Tryz.func29, Tryz.ntmps29
  go_wp2_with fail
  go_ret
  exact ⟨rfl, rfl⟩
end Go.Proofs.YtombncedfleljaaGreat
namespace Go.Proofs.YtombncedfleljaaGreat
open Go.RowKit
attribute [local irreducible] wpQuiet wpAnyH
set_option linter.unusedSimpArgs false

def appA (d : DiskD) (h : Nat) (L : LogD) (q : Ent2) : Ans := if L.brk then some (11, none) else putA d (sFrom h L.side) h ((L.cnt + 1 : Nat) : Int) L.gen q
def appD (d : DiskD) (h : Nat) (L : LogD) (q : Ent2) : DiskD := if L.brk then d else putD d (sFrom h L.side) h ((L.cnt + 1 : Nat) : Int) L.gen q
def appM (L : LogD) : Ans → LogD
  | none => { L with cnt := L.cnt + 1 }
  | some x => noteL L x.1
def appL (d : DiskD) (h : Nat) (L : LogD) (q : Ent2) : LogD := if L.brk then L else appM L (putA d (sFrom h L.side) h ((L.cnt + 1 : Nat) : Int) L.gen q)
theorem addIf_len (d : DiskD) (a : Int) (s : List Int) : (addIf d a s).sec.length = d.sec.length := by
  unfold addIf
  split <;> rfl
theorem writeD_len (d : DiskD) (a : Int) (s : List Int) : (writeD d a s).sec.length = d.sec.length := by
  unfold writeD
  split
  · rfl
  · split
    · exact (crashL_len _ _ _).trans (addIf_len (stepped d) a s)
    · split
      · rfl
      · exact addIf_len (stepped d) a s
theorem syncS_len (d : DiskD) : (syncS d).sec.length = d.sec.length := by
  unfold syncS
  split
  · rfl
  · split
    · exact crashL_len _ _ _
    · split
      · rfl
      · exact syncN_len _ _ _
theorem wsD_len (d : DiskD) (a : Int) (s : List Int) : (wsD d a s).sec.length = d.sec.length := by
  unfold wsD
  split
  · exact writeD_len _ _ _
  · exact (syncS_len _).trans (writeD_len _ _ _)
theorem fillW_len : ∀ (l : List (List Int)) (d : DiskD) (a : Int), (fillW d a l).2.sec.length = d.sec.length
  | [], d, _ => syncS_len d
  | s :: l, d, a => by
    unfold fillW
    split
    · exact writeD_len _ _ _
    · exact (fillW_len l _ _).trans (writeD_len _ _ _)
theorem fillR_len (d : DiskD) (f z : Int) (g : Nat) (l : List Ent2) : (fillR d f z g l).2.sec.length = d.sec.length := by
  unfold fillR
  split
  · rfl
  · split
    · exact fillW_len _ _ _
    · rfl
theorem ofs_lt {h s : Nat} (hh : h ≤ 4096) : 0 ≤ (sFrom h s : Int) ∧ (sFrom h s : Int) ≤ 100000 := by
  unfold sFrom
  split <;> omega
theorem LogOk.h_le {w : World} {m : DiskM} {d : DiskD} {gl h : Nat} {L : LogD} (k : LK w m d gl h L) : h ≤ 4096 := by
  have := k.ok.half
  have := k.dk.ok.few
  omega
theorem putD_len (d : DiskD) (f z p : Int) (g : Nat) (q : Ent2) : (putD d f z p g q).sec.length = d.sec.length := by
  unfold putD
  split
  · rfl
  · split
    · rfl
    · split
      · exact wsD_len _ _ _
      · rfl
theorem putA_le {d : DiskD} {f z p : Int} {g : Nat} {q : Ent2} (h : putA d f z p g q = none) : 1 ≤ p ∧ p ≤ room z := by
  unfold putA at h
  split at h
  · cases h
  · split at h
    · cases h
    · omega

set_option maxRecDepth 100000 in
set_option maxHeartbeats 4000000 in
theorem log_append (q : Ent2) (w : World) (m : DiskM) (d : DiskD) (gl h : Nat) (L : LogD) (k : LK w m d gl h L) (hq : EntOk q) (hr : d.room + 3 ≤ 100000) :
    Calls Tryz.prog 33 #[.pointer (some ⟨gl, 0, none⟩), .agg (entP q).toArray] w fun e w' => e = .returned (valE (appA d h L q)) ∧ ∃ m', LK w' m' (appD d h L q) gl h (appL d h L q) ∧ LT gl w m w' m' := by
  have hh := LogOk.h_le k
  have HK := Lib.hid k
  have HQ := Lib.hid hq
  have hql := entP_length q hq
  obtain ⟨w1, hw1⟩ : ∃ w1, w1 = w.alloc (.cells (entP q).toArray 35) := ⟨_, rfl⟩
  have HE1 : Hid (Blk w1 w.heap.size 35 (entP q).toArray) := Lib.hid (by rw [hw1]; exact Blk.new _ _ _)
  have HW1 : Hid (Below w.heap.size w w1) := Lib.hid (by rw [hw1]; exact bel1 _ _)
  have HK1 := Lib.hid (HK.out.keep HW1.out)
  obtain ⟨c0, c5, c6, c7, c8, c9⟩ := HK1.out.cells
  clear k hq
  cases hb : L.brk with
  | true =>
    have HV : Hid (appA d h L q = some (11, none) ∧ appD d h L q = d ∧ appL d h L q = L) := Lib.hid (by unfold appA appD appL; rw [hb]; exact ⟨rfl, rfl, rfl⟩)
    rw [hb] at c9
    clear hb
    go_enter Tryz.func33, Tryz.ntmps33
    go_upto_region 1 with fail
    rw [← hw1]
    clear hw1
    go_wp2_with fail
    go_ret
    exact ⟨by rw [HV.out.1]; rfl, m, by rw [HV.out.2.1, HV.out.2.2]; exact HK1.out, LT.of_below HW1.out⟩
  | false =>
    obtain ⟨pa, hpa⟩ : ∃ pa, pa = putA d (sFrom h L.side) h ((L.cnt + 1 : Nat) : Int) L.gen q := ⟨_, rfl⟩
    obtain ⟨pd, hpd⟩ : ∃ pd, pd = putD d (sFrom h L.side) h ((L.cnt + 1 : Nat) : Int) L.gen q := ⟨_, rfl⟩
    have HV : Hid (appA d h L q = pa ∧ appD d h L q = pd ∧ appL d h L q = appM L pa) := Lib.hid (by unfold appA appD appL; rw [hb, hpa, hpd]; exact ⟨rfl, rfl, rfl⟩)
    rw [hb] at c9
    have hs2 := ofs_lt (s := L.side) hh
    have hcn : (L.cnt : Int) ≤ 10000 := by have := HK.out.ok.cnt; omega
    have HP := Lib.hid (fun W M (kk : LK W M d gl h L) => slot_put (sFrom h L.side) h ((L.cnt + 1 : Nat) : Int) L.gen q W M d kk.dk hs2 ⟨⟨by omega, by omega⟩, by omega⟩ ⟨by omega, by omega⟩ HK.out.ok.gen HQ.out hr)
    rw [← hpa, ← hpd] at HP
    have HLN : Hid (pd.sec.length = d.sec.length) := Lib.hid (by rw [hpd]; exact putD_len _ _ _ _ _ _)
    have HLE : Hid (pa = none → L.cnt + 1 ≤ 10000) := Lib.hid (fun e => by
      rw [hpa] at e
      have := (putA_le e).2
      unfold room at this
      split at this <;> omega)
    clear hb hpa hpd
    obtain ⟨g9, hg9⟩ : ∃ g9, g9 = m.g := ⟨_, rfl⟩
    rw [← hg9] at c0
    have HG9 : Hid (m.g = g9) := Lib.hid hg9.symm
    have hsd : L.side < 2 := HK.out.ok.side
    have HSL : Hid (∀ W, Blk W gl 109 (logC g9 h L) → W.rangeAt gl (1 + L.side * 2) [.int .i64 (sFrom h L.side), .int .i64 h]) := Lib.hid (fun W hk => blk_slot hk L.side hsd)
    have HB1 : Hid (Blk w1 gl 109 (logC g9 h L)) := Lib.hid (by rw [hg9]; exact HK1.out.blk)
    obtain ⟨sd, hsd2⟩ : ∃ sd, sd = L.side := ⟨_, rfl⟩
    obtain ⟨sf, hsf⟩ : ∃ sf, sf = sFrom h L.side := ⟨_, rfl⟩
    obtain ⟨ct, hct⟩ : ∃ ct, ct = L.cnt := ⟨_, rfl⟩
    have HC : Hid (∀ W, Blk W gl 109 (logC g9 h L) → W.cell? ⟨gl, 0, none⟩ = some (.pointer (some ⟨g9, 0, none⟩)) ∧ W.cell? ⟨gl, 5, none⟩ = some (.int .i64 sd) ∧ W.cell? ⟨gl, 7, none⟩ = some (.int .u32 L.gen) ∧ W.cell? ⟨gl, 8, none⟩ = some (.int .i64 ct)) := Lib.hid (fun W hk => by rw [hsd2, hct]; exact ⟨(hk.cell 0).trans rfl, (hk.cell 5).trans rfl, (hk.cell 7).trans rfl, (hk.cell 8).trans rfl⟩)
    rw [← hsf, ← hsd2] at HSL
    have HSF : Hid (sFrom h L.side = sf) := Lib.hid hsf.symm
    have HCT : Hid (L.cnt = ct) := Lib.hid hct.symm
    have hct4 : (ct : Int) ≤ 10000 := by omega
    have hsd4 : (sd : Int) < 2 := by omega
    have hsd5 : (0 : Int) ≤ sd := by omega
    have HRR : Hid (((ct + 1 : Nat) : Int) = (ct : Int) + 1) := Lib.hid (by omega)
    clear hsd2 hsf hg9 c5 c6 c7 c8 hsd hct
    go_enter Tryz.func33, Tryz.ntmps33
    go_upto_region 1 with fail
    rw [← hw1]
    clear hw1
    go_upto_region 5 with fail
    clear c0 c9
    obtain ⟨gb, hgb⟩ : ∃ gb, gb = w.heap.size := ⟨_, rfl⟩
    have HEB : Hid (Blk w1 gb 35 (entP q).toArray) := Lib.hid (by rw [hgb]; exact HE1.out)
    have HGN : Hid (gb ∉ foot m) := Lib.hid (by rw [hgb]; exact HK.out.dk.notFoot (Nat.le_refl _))
    rw [← hgb]
    clear hgb
    obtain ⟨wS, hwS⟩ : ∃ wS, wS = w1.drew := ⟨_, rfl⟩
    have HD1 : Hid (Below w1.heap.size w1 wS) := Lib.hid (by rw [hwS]; exact (Below.refl _ _).drew)
    have HKS := Lib.hid (HK1.out.keep HD1.out)
    have HB1S : Hid (Blk wS gl 109 (logC g9 h L)) := Lib.hid (HB1.out.keep HD1.out)
    have HEBS : Hid (Blk wS gb 35 (entP q).toArray) := Lib.hid (HEB.out.keep HD1.out)
    have HAP := Lib.hid HK.out.ap
    have HNF : Hid (gb ∉ foot m) := Lib.hid HGN.out
    have HPS := Lib.hid (HP.out wS m HKS.out)
    rw [HG9.out, HSF.out, HCT.out, HRR.out] at HPS
    refine kZ (n := 25) (fun W => (Blk W gl 109 (logC g9 h L) ∧ Blk W gb 35 (entP q).toArray)) (by rw [← hwS]; exact ⟨HB1S.out, HEBS.out⟩) (h := fun hH => ?_)
    rw [← hwS] at hH ⊢
    clear hwS
    refine kM 0 (some 14) (.pointer (some ⟨gl, 0, none⟩)) (h := ?_)
    simp only [p1, p2, p3, p4, p5]
    refine kT 1 (some 15) (.pointer (some ⟨gl, 0, none⟩)) (h := ?_)
    simp only [p1, p2, p3, p4, p5]
    refine kT 2 (some 16) (.pointer (some ⟨gl, 0, none⟩)) (h := ?_)
    simp only [p1, p2, p3, p4, p5]
    refine kC 3 (some 17) (v := .pointer (some ⟨g9, 0, none⟩)) (fun _ hX => (HC.out _ hX.1).1) (h := ?_)
    simp only [p1, p2, p3, p4, p5]
    refine kM 4 (some 18) (.pointer (some ⟨gl, 0, none⟩)) (h := ?_)
    simp only [p1, p2, p3, p4, p5]
    refine kM 5 (some 19) (.pointer (some ⟨gl, 0, none⟩)) (h := ?_)
    simp only [p1, p2, p3, p4, p5]
    refine kT 6 (some 20) (.pointer (some ⟨gl, 0, none⟩)) (h := ?_)
    simp only [p1, p2, p3, p4, p5]
    refine kT 7 (some 21) (.pointer (some ⟨gl, 5, none⟩)) (h := ?_)
    simp only [p1, p2, p3, p4, p5]
    refine kC 8 (some 22) (v := .int .i64 sd) (fun _ hX => (HC.out _ hX.1).2.1) (h := ?_)
    simp only [p1, p2, p3, p4, p5]
    refine kT 9 (some 23) (.pointer (some ⟨gl, 0, none⟩)) (h := ?_)
    simp only [p1, p2, p3, p4, p5]
    refine kT 10 (some 24) (.pointer (some ⟨gl, 1, none⟩)) (h := ?_)
    simp only [p1, p2, p3, p4, p5]
    refine kT 11 (some 25) (.pointer (some ⟨gl, 1 + sd * 2, none⟩)) (h := ?_)
    simp only [p1, p2, p3, p4, p5]
    refine kL 12 (some 26) (cs := [.int .i64 sf, .int .i64 h]) (fun _ hX => HSL.out _ hX.1) (rfl) (h := ?_)
    simp only [p1, p2, p3, p4, p5]
    refine kM 13 (some 27) (.pointer (some ⟨gl, 0, none⟩)) (h := ?_)
    simp only [p1, p2, p3, p4, p5]
    refine kT 14 (some 28) (.pointer (some ⟨gl, 0, none⟩)) (h := ?_)
    simp only [p1, p2, p3, p4, p5]
    refine kT 15 (some 29) (.pointer (some ⟨gl, 8, none⟩)) (h := ?_)
    simp only [p1, p2, p3, p4, p5]
    refine kC 16 (some 30) (v := .int .i64 ct) (fun _ hX => (HC.out _ hX.1).2.2.2) (h := ?_)
    simp only [p1, p2, p3, p4, p5]
    refine kM 18 (some 32) (.pointer (some ⟨gl, 0, none⟩)) (h := ?_)
    simp only [p1, p2, p3, p4, p5]
    refine kT 19 (some 33) (.pointer (some ⟨gl, 0, none⟩)) (h := ?_)
    simp only [p1, p2, p3, p4, p5]
    refine kT 20 (some 34) (.pointer (some ⟨gl, 7, none⟩)) (h := ?_)
    simp only [p1, p2, p3, p4, p5]
    refine kC 21 (some 35) (v := .int .u32 L.gen) (fun _ hX => (HC.out _ hX.1).2.2.1) (h := ?_)
    simp only [p1, p2, p3, p4, p5]
    refine kL 22 (some 36) (cs := entP q) (fun _ hX => hX.2.range) (hql) (h := ?_)
    simp only [p1, p2, p3, p4, p5]
    refine kT 17 (some 31) (.int .i64 (ct + 1)) (hy := fun W hW => by unfold execOp; go_simp; exact IntWalk.i64_in _ (by omega)) (h := ?_)
    simp only [p1, p2, p3, p4, p5]
    refine kF 23 (some 37) (HPS.out.mono ?_)
    rintro e w5 ⟨rfl, m5, hk5, ht5⟩
    refine ⟨_, rfl, ⟨(ht5.off HB1S.out.lt HAP.out.1).trans HB1S.out, (ht5.off HEBS.out.lt HNF.out).trans HEBS.out⟩, fun hH => ?_⟩
    simp only [p1, p2, p3, p4, p5]
    refine kT 24 (some 5) (valE pa) (h := ?_)
    simp only [p1, p2, p3, p4, p5]
    refine kE (h := ?_)
    have HKX : Hid (LK w5 m5 pd gl h L) := Lib.hid ((HK1.out.keep HD1.out).disk hk5 ht5 HLN.out)
    have HTX : Hid (LT gl w m w5 m5) := Lib.hid ((LT.of_below (bstep HW1.out HD1.out)).trans (LT.of_dt ht5))
    clear hk5 ht5
    cases pa with
    | some x =>
      obtain ⟨t, u, hv⟩ := valE_form x
      have HN := Lib.hid (log_note (some x) w5 m5 pd gl h L HKX.out)
      have HVE := Lib.hid hv
      rw [hv] at HN ⊢
      have hne := neq_nil t u
      clear hv
      go_wp2_with fail
      refine HN.out.mono ?_
      rintro e w6 ⟨rfl, hk6, ht6⟩
      have HK6 := Lib.hid hk6
      have HT6 := Lib.hid (HTX.out.trans ht6)
      clear hk6 ht6
      go_wp2_with fail
      go_ret
      exact ⟨by rw [HV.out.1, HVE.out]; rfl, m5, by rw [HV.out.2.1, HV.out.2.2]; exact HK6.out, HT6.out⟩
    | none =>
      obtain ⟨c0, c5, c6, c7, c8, c9⟩ := HKX.out.cells
      have f8 := HKX.out.blk.frozen 8
      have hv : valE none = .nilIface := rfl
      have hnn : ∀ w, (binOp .neq 42 .nilIface .nilIface).run Tryz.prog w = .ok (.bool false) w := fun w => by kernel_rfl
      rw [hv]
      clear hv
      go_wp2_with fail
      go_ret
      refine ⟨by rw [HV.out.1]; rfl, m5, ?_, HTX.out.set 8 _⟩
      rw [HV.out.2.1, HV.out.2.2]
      exact HKX.out.set 8 _ (by rfl) ⟨HKX.out.ok.side, HKX.out.ok.last, HKX.out.ok.gen, HLE.out (by simp), HKX.out.ok.half⟩

set_option maxRecDepth 100000 in
set_option maxHeartbeats 1000000 in
theorem log_room (w : World) (gl g h : Nat) (L : LogD) (k : LogP w gl g h L) (hs : L.side < 2) (hh : h ≤ 4096) : Calls Tryz.prog 53 #[.pointer (some ⟨gl, 0, none⟩)] w fun e w' => e = .returned (.int .i64 (h - 1 : Nat)) ∧ Below w.heap.size w w' := by
  have HB : Hid (Blk w gl 109 (logC g h L)) := Lib.hid k
  have HSL : Hid (∀ W, Blk W gl 109 (logC g h L) → W.rangeAt gl (1 + L.side * 2) [.int .i64 (sFrom h L.side), .int .i64 h]) := Lib.hid (fun W hk => blk_slot hk L.side hs)
  obtain ⟨sd, hsd2⟩ : ∃ sd, sd = L.side := ⟨_, rfl⟩
  obtain ⟨sf, hsf⟩ : ∃ sf, sf = sFrom h L.side := ⟨_, rfl⟩
  have HC : Hid (∀ W, Blk W gl 109 (logC g h L) → W.cell? ⟨gl, 5, none⟩ = some (.int .i64 sd)) := Lib.hid (fun W hk => by rw [hsd2]; exact (hk.cell 5).trans rfl)
  rw [← hsf, ← hsd2] at HSL
  have hsd4 : (sd : Int) < 2 := by omega
  have hsd5 : (0 : Int) ≤ sd := by omega
  have HRM : Hid (room (h : Int) = ((h - 1 : Nat) : Int)) := Lib.hid (by unfold room; split <;> omega)
  have HP := Lib.hid (fun W => slot_room sf h W ⟨by omega, by omega⟩)
  rw [HRM.out] at HP
  clear hsd2 hsf hs k
  go_enter Tryz.func53, Tryz.ntmps53
  go_upto_region 3 with fail
  obtain ⟨wS, hwS⟩ : ∃ wS, wS = w.drew := ⟨_, rfl⟩
  have HD1 : Hid (Below w.heap.size w wS) := Lib.hid (by rw [hwS]; exact (Below.refl _ _).drew)
  refine kZ (n := 11) (fun W => Blk W gl 109 (logC g h L)) (by rw [← hwS]; exact HB.out.keep HD1.out) (h := fun hH => ?_)
  rw [← hwS] at hH ⊢
  clear hwS
  refine kM 0 (some 5) (.pointer (some ⟨gl, 0, none⟩)) (h := ?_)
  simp only [p1, p2, p3, p4, p5]
  refine kM 1 (some 6) (.pointer (some ⟨gl, 0, none⟩)) (h := ?_)
  simp only [p1, p2, p3, p4, p5]
  refine kT 2 (some 7) (.pointer (some ⟨gl, 0, none⟩)) (h := ?_)
  simp only [p1, p2, p3, p4, p5]
  refine kT 3 (some 8) (.pointer (some ⟨gl, 5, none⟩)) (h := ?_)
  simp only [p1, p2, p3, p4, p5]
  refine kC 4 (some 9) (v := .int .i64 sd) (fun _ hX => HC.out _ hX) (h := ?_)
  simp only [p1, p2, p3, p4, p5]
  refine kT 5 (some 10) (.pointer (some ⟨gl, 0, none⟩)) (h := ?_)
  simp only [p1, p2, p3, p4, p5]
  refine kT 6 (some 11) (.pointer (some ⟨gl, 1, none⟩)) (h := ?_)
  simp only [p1, p2, p3, p4, p5]
  refine kT 7 (some 12) (.pointer (some ⟨gl, 1 + sd * 2, none⟩)) (h := ?_)
  simp only [p1, p2, p3, p4, p5]
  refine kL 8 (some 13) (cs := [.int .i64 sf, .int .i64 h]) (fun _ hX => HSL.out _ hX) (rfl) (h := ?_)
  simp only [p1, p2, p3, p4, p5]
  refine kF 9 (some 14) ((HP.out wS).mono ?_)
  rintro e w5 ⟨rfl, hb5⟩
  have HB5 := Lib.hid hb5
  refine ⟨_, rfl, hH.keep hb5, fun hH => ?_⟩
  simp only [p1, p2, p3, p4, p5]
  refine kT 10 (some 2) (.int .i64 (h - 1 : Nat)) (h := ?_)
  simp only [p1, p2, p3, p4, p5]
  refine kE (h := ?_)
  go_wp2_with fail
  go_ret
  exact ⟨rfl, bstep HD1.out HB5.out⟩
end Go.Proofs.YtombncedfleljaaGreat
