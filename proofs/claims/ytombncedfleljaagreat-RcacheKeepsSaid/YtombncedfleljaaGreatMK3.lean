/- Parts: tollref20.Live and Has. | tollref20.Put: plain laws. | tollref20.Has. | index.Compare and its reference. | The walk through a region that draws its order, by hand: laws whose conditions the kernel reckons. No program is named here. -/
import Derived.Test.YtombncedfleljaaGreatMK2
import Derived.Deep.QuietTactic
import Derived.Sort.Grow
import Derived.Test.YtombncedfleljaaGreatMK1
import Derived.Deep.RegionHeld3
namespace Go.Proofs.YtombncedfleljaaGreat
set_option maxRecDepth 100000
open Go.RowKit

theorem tEntI : SlT Tryz.prog 28 35 33 40 := SlT.mk' Tryz.underlying28 (z := .agg (entC (List.replicate 32 0) 0).toArray) (by kernel_rfl) rfl (by decide)
theorem entPI (p : List Int × Int) : ∀ u ∈ entP p, u.oneCell' = true := fun u hu => by
  have := entC_one p.1 p.2
  simp only [List.all_toArray, List.all_eq_true] at this
  exact this u hu
theorem build_row (l : List Value) (n : Nat) (hl : l.length = n) (Z : Array Value) (hz : Z.size = n) : l.zipIdx.foldl (fun (cs : Array Value) (x : Value × Nat) => cs.setIfInBounds x.2 x.1) Z = l.toArray := by
  apply Array.ext_getElem?
  intro i
  rw [set_many, hz, hl, show l.toArray[i]? = l[i]? by simp]
  by_cases h : i < n
  · rw [if_pos (by omega), Nat.sub_zero]
  · rw [if_neg (by omega), Array.getElem?_eq_none (by omega), List.getElem?_eq_none (by omega)]
theorem run_eqD {p q : List Int} (hp : DigOk p) (hq : DigOk q) (w : World) : (Op.equalIn 10000 33 (.agg (u8s p).toArray) (.agg (u8s q).toArray)).run Tryz.prog w = .ok (decide (p = q)) w := by
  have hu := Tryz.underlying33
  have hc : Tryz.prog.cellsOf 33 = 32 := by kernel_rfl
  have form : ∀ x : List Int, DigOk x → Value.formed Tryz.prog 33 (.agg (u8s x).toArray) = true := fun x hx => by
    unfold Value.formed
    rw [hu]
    simp [hc, u8s, hx.len]
  have cells : ∀ x : List Int, (Value.agg (u8s x).toArray).cells.toList = u8s x := fun x => by
    show (u8s x).toArray.toList = _
    simp
  obtain ⟨r, hr, hiff⟩ := run_equalIn_deep (P := Tryz.prog) 9997 3 33 (by kernel_rfl) w 3 3 (.agg (u8s p).toArray) (.agg (u8s q).toArray) _ _ (form p hp) (form q hq) (by rw [cells]; exact lits_dig 1 hp) (by rw [cells]; exact lits_dig 1 hq)
  rw [hr]
  congr 1
  by_cases h : p = q
  · subst h
    simpa using hiff.2 rfl
  · have : ¬ r = true := fun e => h (by
      have := lits_inj (p := (p, 0)) (q := (q, 0)) (by rw [hiff.1 e])
      exact congrArg Prod.fst this)
    simpa [h] using this

set_option maxRecDepth 100000 in
set_option maxHeartbeats 2000000 in
theorem ref_live_own (va : Value) (l : List (List Int × Int)) (now : Int) (w : World) (hs : Sn w 33 va l.length (l.flatMap entP)) (hok : ∀ p ∈ l, EntOk p) (hl : l.length ≤ 1000) :
    Calls Tryz.prog 21 #[va, .int .i64 now] w fun e w' => ∃ v, e = .returned v ∧ w'.ownsRow w.heap.size 35 33 v (liveL l now).length ((liveL l now).flatMap entP) ∧ Below w.heap.size w w' := by
  obtain ⟨A, cap, rfl, hcap, _, _⟩ := id hs
  have HS := Lib.hid hs
  have HOK := Lib.hid hok
  clear hs hok
  go_enter Tryz.func21, Tryz.ntmps21
  go_wp2_with fail
  go_loopw [5, 6] (fun m i wr => ∃ k : Nat, k ≤ l.length ∧ i = .int .i64 k ∧ wr.ownsRow w.heap.size 35 33 m (liveL (l.take k) now).length ((liveL (l.take k) now).flatMap entP) ∧ Below w.heap.size w wr) (fun _ i _ => l.length - (intOf i).toNat)
  case atStart => exact ⟨0, Nat.zero_le _, rfl, World.ownsRow_nil _ _ _ _, Below.refl _ _⟩
  case round =>
    obtain ⟨k, hk, rfl, hown, hb⟩ := hrel
    by_cases hlt : k < l.length
    · obtain ⟨b, off, rfl, hr⟩ := at_elem entP EntOk 33 entP_length (HS.out.below hb) HOK.out k hlt
      replace hr : wr.rangeAt b (off + k * 33) (entP l[k]) := hr
      have hpk := HOK.out l[k] (List.getElem_mem hlt)
      have hlen := entP_length l[k] hpk
      have h32 : (u8s l[k].1).length = 32 := by simp [u8s, hpk.dig.len]
      have htc : wr.cell? ⟨b, off + k * 33 + 32, none⟩ = some (.int .i64 l[k].2) := hr 32 _ (by
        simp only [entP, entC]
        rw [List.getElem?_append_right (by omega), h32]
        rfl)
      have HR := Lib.hid hr
      clear hr
      have h1 := entPI l[k]
      have hbuild := build_row (entP l[k]) 33 hlen
      have hsnoc : Hid (liveL (l.take (k + 1)) now = liveL (l.take k) now ++ (if decide (now ≤ l[k].2) = true then [l[k]] else [])) := Lib.hid (by
        unfold liveL
        rw [List.take_succ_eq_append_getElem hlt, List.filter_append]
        congr 1
        by_cases h : now ≤ l[k].2 <;> simp [h])
      obtain ⟨L, hL⟩ : ∃ L, L = liveL (l.take k) now := ⟨_, rfl⟩
      have hLl : L.length ≤ k := by
        rw [hL]; unfold liveL
        have := List.length_filter_le (fun p : List Int × Int => decide (now ≤ p.2)) (l.take k)
        rw [List.length_take] at this
        omega
      rw [← hL] at hown hsnoc
      clear hL
      have hsz := hb.size
      have hi0 : (0 : Int) ≤ k := by omega
      have hi1 : (k : Int) < l.length := by omega
      rcases Bool.eq_false_or_eq_true (decide (now ≤ l[k].2)) with t1 | t1
      · rw [t1, if_pos rfl] at hsnoc
        have hoA := own_below hown (balloc (Below.refl _ wr) (.cells (entP l[k]).toArray 35))
        have hnA := Sn.new wr (entP l[k]).toArray 35 33 1 (by simp [hlen])
        go_wp2_with (first
          | (refine ld 35 _ rfl rfl rfl HR.out Tryz.underlying35 rfl (by rw [hlen]; kernel_rfl) ?_)
          | (at_builtin; refine app tEntI (.tmp 20) (.tmp 25) rfl rfl (v := u5) rfl hoA rfl hnA (fun u hu => h1 u (by simpa using hu)) (by unfold maxLen; omega) (by omega) (by simp; omega) ?_; intro v4 w4 hown4 hg4 _))
        have hb4 : Below w.heap.size w w4 := (hb.alloc hb.size (.cells (entP l[k]).toArray 35)).grown hg4 (by simp; omega) (fun g hg => (hoA.lt g hg).1)
        refine ⟨⟨k + 1, by omega, by go_num, ?_, hb4⟩, by simp [intOf]; omega⟩
        rw [hsnoc.out, List.length_append, List.flatMap_append]
        simpa using hown4
      · rw [t1, if_neg (by simp)] at hsnoc
        go_wp2_with fail
        refine ⟨⟨k + 1, by omega, by go_num, ?_, hb⟩, by simp [intOf]; omega⟩
        rw [hsnoc.out, List.append_nil]
        exact hown
    · obtain rfl : k = l.length := by omega
      rw [List.take_length] at hown
      go_wp2_with fail
      go_ret
      exact ⟨_, rfl, hown, hb⟩
theorem ref_live_any (va : Value) (l : List (List Int × Int)) (now : Int) (w : World) (hs : Sn w 33 va l.length (l.flatMap entP)) (hok : ∀ p ∈ l, EntOk p) (hl : l.length ≤ 1000) :
    Calls Tryz.prog 21 #[va, .int .i64 now] w fun e w' => ∃ v, e = .returned v ∧ Sn w' 33 v (liveL l now).length ((liveL l now).flatMap entP) ∧ Below w.heap.size w w' := by
  refine (ref_live_own va l now w hs hok hl).mono ?_
  rintro e w' ⟨v, h1, h2, h3⟩
  exact ⟨v, h1, Sn.own h2, h3⟩
end Go.Proofs.YtombncedfleljaaGreat
namespace Go.Proofs.YtombncedfleljaaGreat
set_option maxRecDepth 100000
/-- One step of Put's loop. -/
def putStep (e : List Int × Int) (s : List (List Int × Int) × Bool) (q : List Int × Int) : List (List Int × Int) × Bool :=
  let s' := if !s.2 && decide (cmpE e q < 0) then (s.1 ++ [e], true) else s
  (if decide (q.1 = e.1) then s'.1 else s'.1 ++ [q], s'.2)
def blocks (e q : List Int × Int) : Bool := decide (q.1 = e.1) && decide (e.2 ≤ q.2)
def putS (L : List (List Int × Int)) (e : List Int × Int) : List (List Int × Int) × Bool := L.foldl (putStep e) ([], false)
def refPut (L : List (List Int × Int)) (e : List Int × Int) : List (List Int × Int) × Bool :=
  if L.any (blocks e) then (L, false) else (if (putS L e).2 then (putS L e).1 else (putS L e).1 ++ [e], true)
theorem putS_snoc (L : List (List Int × Int)) (e : List Int × Int) (k : Nat) (h : k < L.length) : putS (L.take (k + 1)) e = putStep e (putS (L.take k) e) L[k] := by
  unfold putS
  rw [List.take_succ_eq_append_getElem h, List.foldl_append]
  rfl
theorem putS_len (L : List (List Int × Int)) (e : List Int × Int) : (putS L e).1.length ≤ L.length + 1 ∧ ((putS L e).2 = false → (putS L e).1.length ≤ L.length) := by
  unfold putS
  have key : ∀ (L : List (List Int × Int)) (s : List (List Int × Int) × Bool) (n : Nat), s.1.length ≤ n + 1 → (s.2 = false → s.1.length ≤ n) → (L.foldl (putStep e) s).1.length ≤ n + L.length + 1 ∧ ((L.foldl (putStep e) s).2 = false → (L.foldl (putStep e) s).1.length ≤ n + L.length) := by
    intro L
    induction L with
    | nil => intro s n h h'; exact ⟨by simpa using h, by simpa using h'⟩
    | cons q L ih =>
      intro s n h h'
      rw [List.foldl_cons]
      have := ih (putStep e s q) (n + 1) (by
        obtain ⟨o, p⟩ := s
        unfold putStep
        cases p <;> (simp only [Bool.not_true, Bool.not_false, Bool.false_and, Bool.true_and] at *; repeat' split) <;> simp at * <;> omega) (by
        obtain ⟨o, p⟩ := s
        unfold putStep
        cases p <;> (simp only [Bool.not_true, Bool.not_false, Bool.false_and, Bool.true_and] at *; repeat' split) <;> simp at * <;> omega)
      simp only [List.length_cons]
      exact ⟨by omega, fun hf => by have := this.2 hf; omega⟩
  have := key L ([], false) 0 (by simp) (by simp)
  simpa using this
theorem refPut_len (L : List (List Int × Int)) (e : List Int × Int) : (refPut L e).1.length ≤ L.length + 1 := by
  have := putS_len L e
  unfold refPut
  split
  · simp
  · split
    · exact this.1
    · rename_i h
      have := this.2 (by simpa using h)
      simp; omega
theorem cmpE_lt_trans {p q r : List Int × Int} (h : cmpE p q < 0) (h' : cmpE q r < 0) : cmpE p r < 0 := by
  have h3 := cmpE_trans p q r (by omega) (by omega)
  have hne : cmpE p r ≠ 0 := fun e => by
    have e' := (cmpE_zero _ _).1 e
    subst e'
    have := cmpE_neg p q
    omega
  omega
theorem put_go (e : List Int × Int) : ∀ (rest out : List (List Int × Int)) (placed : Bool), rest.Pairwise (fun p q => cmpE p q < 0) → out.Pairwise (fun p q => cmpE p q < 0) → (∀ x ∈ out, ∀ y ∈ rest, cmpE x y < 0) → (placed = false → ∀ x ∈ out, cmpE x e < 0) →
    (∀ q ∈ rest, q.1 = e.1 → q.2 < e.2) → (placed = true → ∀ q ∈ rest, cmpE e q < 0) →
    let s := rest.foldl (putStep e) (out, placed)
    let r := if s.2 then s.1 else s.1 ++ [e]
    r.Pairwise (fun p q => cmpE p q < 0) ∧ ∀ x, x ∈ r ↔ x ∈ out ∨ (placed = false ∧ x = e) ∨ (x ∈ rest ∧ x.1 ≠ e.1)
  | [], out, placed, _, ho, _, hp, _, _ => by
    cases placed with
    | true => simpa using ho
    | false =>
      simp only [List.foldl_nil, Bool.false_eq_true, if_false]
      refine ⟨List.pairwise_append.2 ⟨ho, by simp, fun x hx y hy => ?_⟩, fun x => by simp⟩
      obtain rfl : y = e := by simpa using hy
      exact hp rfl x hx
  | q :: rest, out, placed, hr, ho, hor, hp, hb, hpl => by
    rw [List.foldl_cons]
    rw [List.pairwise_cons] at hr
    have hqd : q.1 = e.1 → cmpE q e < 0 := fun hd => by
      have := hb q (by simp) hd
      unfold cmpE cmpI
      simp [this]
    -- the state behind q
    by_cases hplace : placed = false ∧ cmpE e q < 0
    · obtain ⟨rfl, hlt⟩ := hplace
      have hne : ¬ q.1 = e.1 := fun hd => by
        have h1 := hqd hd
        have := cmpE_neg q e
        omega
      have hst : putStep e (out, false) q = (out ++ [e] ++ [q], true) := by
        unfold putStep
        simp [hlt, hne]
      rw [hst]
      have hall : ∀ y ∈ rest, cmpE e y < 0 := fun y hy => cmpE_lt_trans hlt (hr.1 y hy)
      have := put_go e rest (out ++ [e] ++ [q]) true hr.2 (by
          refine List.pairwise_append.2 ⟨List.pairwise_append.2 ⟨ho, by simp, fun x hx y hy => ?_⟩, by simp, fun x hx y hy => ?_⟩
          · obtain rfl : y = e := by simpa using hy
            exact hp rfl x hx
          · obtain rfl : y = q := by simpa using hy
            rcases List.mem_append.1 hx with hx | hx
            · exact hor x hx y (by simp)
            · obtain rfl : x = e := by simpa using hx
              exact hlt) (fun x hx y hy => by
          rcases List.mem_append.1 hx with hx | hx
          · rcases List.mem_append.1 hx with hx | hx
            · exact hor x hx y (by simp [hy])
            · obtain rfl : x = e := by simpa using hx
              exact hall y hy
          · obtain rfl : x = q := by simpa using hx
            exact hr.1 y hy) (fun h => by simp at h) (fun x hx => hb x (by simp [hx])) (fun _ => hall)
      refine ⟨this.1, fun x => (this.2 x).trans ?_⟩
      simp only [List.mem_append, List.mem_cons, List.not_mem_nil, or_false, Bool.true_eq_false, false_and, false_or, true_and]
      constructor
      · rintro (((h | h) | h) | ⟨h, h'⟩)
        · exact .inl h
        · exact .inr (.inl h)
        · subst h; exact .inr (.inr ⟨.inl rfl, hne⟩)
        · exact .inr (.inr ⟨.inr h, h'⟩)
      · rintro (h | h | ⟨h | h, h'⟩)
        · exact .inl (.inl (.inl h))
        · exact .inl (.inl (.inr h))
        · exact .inl (.inr h)
        · exact .inr ⟨h, h'⟩
    · have hnp : ((!placed) && decide (cmpE e q < 0)) = false := by
        cases placed <;> simp at hplace ⊢
        exact hplace
      have hqe : placed = false → q.1 ≠ e.1 → cmpE q e < 0 := fun h1 h2 => by
        have h3 : ¬ cmpE e q < 0 := fun h => hplace ⟨h1, h⟩
        have h4 := cmpE_neg q e
        have h5 : cmpE q e ≠ 0 := fun h => h2 (by rw [(cmpE_zero q e).1 h])
        omega
      by_cases hd : q.1 = e.1
      · have hst : putStep e (out, placed) q = (out, placed) := by
          unfold putStep
          simp [hnp, hd]
        rw [hst]
        have := put_go e rest out placed hr.2 ho (fun x hx y hy => hor x hx y (by simp [hy])) hp (fun x hx => hb x (by simp [hx])) (fun h y hy => hpl h y (by simp [hy]))
        refine ⟨this.1, fun x => (this.2 x).trans ?_⟩
        rw [List.mem_cons]
        constructor
        · rintro (h | h | ⟨h, h'⟩)
          · exact .inl h
          · exact .inr (.inl h)
          · exact .inr (.inr ⟨.inr h, h'⟩)
        · rintro (h | h | ⟨h | h, h'⟩)
          · exact .inl h
          · exact .inr (.inl h)
          · subst h; exact absurd hd h'
          · exact .inr (.inr ⟨h, h'⟩)
      · have hst : putStep e (out, placed) q = (out ++ [q], placed) := by
          unfold putStep
          simp [hnp, hd]
        rw [hst]
        have := put_go e rest (out ++ [q]) placed hr.2 (by
            refine List.pairwise_append.2 ⟨ho, by simp, fun x hx y hy => ?_⟩
            obtain rfl : y = q := by simpa using hy
            exact hor x hx y (by simp)) (fun x hx y hy => by
            rcases List.mem_append.1 hx with hx | hx
            · exact hor x hx y (by simp [hy])
            · obtain rfl : x = q := by simpa using hx
              exact hr.1 y hy) (fun h x hx => by
            rcases List.mem_append.1 hx with hx | hx
            · exact hp h x hx
            · obtain rfl : x = q := by simpa using hx
              exact hqe h hd) (fun x hx => hb x (by simp [hx])) (fun h y hy => hpl h y (by simp [hy]))
        refine ⟨this.1, fun x => (this.2 x).trans ?_⟩
        simp only [List.mem_append, List.mem_cons, List.not_mem_nil, or_false]
        constructor
        · rintro ((h | h) | h | ⟨h, h'⟩)
          · exact .inl h
          · subst h; exact .inr (.inr ⟨.inl rfl, hd⟩)
          · exact .inr (.inl h)
          · exact .inr (.inr ⟨.inr h, h'⟩)
        · rintro (h | h | ⟨h | h, h'⟩)
          · exact .inl (.inl h)
          · exact .inr (.inl h)
          · exact .inl (.inr h)
          · exact .inr (.inr ⟨h, h'⟩)
theorem refPut_ok {f : List Int → Option Int} {L : List (List Int × Int)} {e : List Int × Int} (h : Lists f L) (he : EntOk e) : Lists (putF f e.1 e.2) (refPut L e).1 ∧ (refPut L e).2 = !old? f e.1 e.2 := by
  have hany : L.any (blocks e) = old? f e.1 e.2 := by
    cases h1 : f e.1 with
    | none =>
      have : old? f e.1 e.2 = false := by unfold old?; simp [h1]
      rw [this, List.any_eq_false]
      intro q hq hbl
      unfold blocks at hbl
      simp only [Bool.and_eq_true, decide_eq_true_eq] at hbl
      have := ((h.mem q).1 hq).2
      rw [hbl.1, h1] at this
      cases this
    | some t =>
      unfold old?
      rw [h1]
      simp only [Option.isSome_some, Bool.true_and, Option.getD_some]
      rw [Bool.eq_iff_iff, List.any_eq_true, decide_eq_true_eq]
      constructor
      · rintro ⟨q, hq, hbl⟩
        unfold blocks at hbl
        simp only [Bool.and_eq_true, decide_eq_true_eq] at hbl
        have := ((h.mem q).1 hq).2
        rw [hbl.1, h1] at this
        injection this with this
        omega
      · intro hle
        exact ⟨(e.1, t), (h.mem _).2 ⟨⟨he.dig, h.exp _ _ he.dig h1⟩, h1⟩, by simp [blocks, hle]⟩
  rcases Bool.eq_false_or_eq_true (old? f e.1 e.2) with ho | ho
  · have e1 : refPut L e = (L, false) := by unfold refPut; rw [hany, ho]; rfl
    have e2 : putF f e.1 e.2 = f := by unfold putF; rw [if_pos ho]
    rw [e1, e2, ho]
    exact ⟨h, rfl⟩
  · have e1 : refPut L e = (if (putS L e).2 then (putS L e).1 else (putS L e).1 ++ [e], true) := by unfold refPut; rw [hany, ho]; rfl
    have e2 : putF f e.1 e.2 = upd f e.1 e.2 := by unfold putF; rw [ho]; rfl
    rw [e1, e2, ho]
    refine ⟨?_, rfl⟩
    have hb : ∀ q ∈ L, q.1 = e.1 → q.2 < e.2 := fun q hq hd => by
      have h1 := List.any_eq_false.1 (hany.trans ho) q hq
      unfold blocks at h1
      simp only [Bool.and_eq_true, decide_eq_true_eq, not_and] at h1
      have := h1 hd
      omega
    have key := put_go e L [] false h.sorted (by simp) (by simp) (by simp) hb (by simp)
    refine ⟨fun p => ?_, key.1, fun d t hd ht => ?_⟩
    · refine (key.2 p).trans ?_
      rw [h.mem p]
      unfold upd
      by_cases hp : p.1 = e.1
      · rw [if_pos hp]
        constructor
        · rintro (h1 | ⟨_, h1⟩ | ⟨_, h1⟩)
          · simp at h1
          · subst h1; exact ⟨he, rfl⟩
          · exact absurd hp h1
        · rintro ⟨_, h1⟩
          injection h1 with h1
          exact .inr (.inl ⟨rfl, Prod.ext hp h1.symm⟩)
      · rw [if_neg hp]
        constructor
        · rintro (h1 | ⟨_, h1⟩ | ⟨h1, _⟩)
          · simp at h1
          · subst h1; exact absurd rfl hp
          · exact h1
        · intro h1
          exact .inr (.inr ⟨h1, hp⟩)
    · unfold upd at ht
      split at ht
      · injection ht with ht
        subst ht
        exact he.exp
      · exact h.exp d t hd ht
theorem Lists.nil : Lists (fun _ => none) [] := ⟨fun p => by simp, List.Pairwise.nil, fun d t _ h => by cases h⟩
/-- What Of answers. -/
def refOf (l : List (List Int × Int)) : List (List Int × Int) := l.foldl (fun o e => (refPut o e).1) []
theorem refOf_snoc (l : List (List Int × Int)) (k : Nat) (h : k < l.length) : refOf (l.take (k + 1)) = (refPut (refOf (l.take k)) l[k]).1 := by
  unfold refOf
  rw [List.take_succ_eq_append_getElem h, List.foldl_append]
  rfl
theorem refOf_ok : ∀ l : List (List Int × Int), (∀ p ∈ l, EntOk p) → Lists (idxS l).1 (refOf l) := by
  intro l hok
  have key : ∀ k, k ≤ l.length → Lists (idxS (l.take k)).1 (refOf (l.take k)) ∧ (refOf (l.take k)).length ≤ k := by
    intro k
    induction k with
    | zero =>
      intro _
      rw [idxS_def]
      exact ⟨Lists.nil, Nat.le_refl _⟩
    | succ k ih =>
      intro hk
      have hlt : k < l.length := by omega
      obtain ⟨h1, h2⟩ := ih (by omega)
      rw [idxS_snoc l k hlt, refOf_snoc l k hlt]
      have := refPut_len (refOf (l.take k)) l[k]
      exact ⟨(refPut_ok h1 (hok _ (List.getElem_mem hlt))).1, by omega⟩
  have := (key l.length (Nat.le_refl _)).1
  rwa [List.take_length] at this
theorem refOf_len (l : List (List Int × Int)) : (refOf l).length ≤ l.length := by
  have key : ∀ k, k ≤ l.length → (refOf (l.take k)).length ≤ k := by
    intro k
    induction k with
    | zero => intro _; exact Nat.le_refl _
    | succ k ih =>
      intro hk
      have hlt : k < l.length := by omega
      have h2 := ih (by omega)
      rw [refOf_snoc l k hlt]
      have := refPut_len (refOf (l.take k)) l[k]
      omega
  have := key l.length (Nat.le_refl _)
  rwa [List.take_length] at this
end Go.Proofs.YtombncedfleljaaGreat
namespace Go.Proofs.YtombncedfleljaaGreat
set_option maxRecDepth 100000
open Go.RowKit
attribute [local irreducible] wpQuiet

theorem ent_parts {w : World} {b off : Nat} {p : List Int × Int} (hr : w.rangeAt b off (entP p)) (hp : EntOk p) : w.rangeAt b off (u8s p.1) ∧ w.cell? ⟨b, off + 32, none⟩ = some (.int .i64 p.2) := by
  have h32 : (u8s p.1).length = 32 := by simp [u8s, hp.dig.len]
  constructor
  · intro j u hj
    refine hr j u ?_
    have hlt := (List.getElem?_eq_some_iff.1 hj).1
    simp only [entP, entC]
    rw [List.getElem?_append_left hlt]
    exact hj
  · refine hr 32 _ ?_
    simp only [entP, entC]
    rw [List.getElem?_append_right (by omega), h32]
    rfl

set_option maxRecDepth 100000 in
set_option maxHeartbeats 2000000 in
theorem ref_has_any (va : Value) (l : List (List Int × Int)) (d : List Int) (now : Int) (w : World) (hs : Sn w 33 va l.length (l.flatMap entP)) (hok : ∀ p ∈ l, EntOk p) (hl : l.length ≤ 1000) (hd : DigOk d) :
    Calls Tryz.prog 69 #[va, .agg (u8s d).toArray, .int .i64 now] w fun e w' => e = .returned (.bool (l.any fun p => decide (p.1 = d) && decide (now ≤ p.2))) ∧ Below w.heap.size w w' := by
  obtain ⟨A, cap, rfl, hcap, _, _⟩ := id hs
  have HS := Lib.hid hs
  have HOK := Lib.hid hok
  clear hs hok
  have hbA : Below w.heap.size w (w.alloc (.cells (u8s d).toArray 33)) := (by repeat (first | exact Below.refl _ _ | assumption | refine bdrewN ?_ _ | refine Below.setCell ?_ (by first | exact Nat.le_refl _ | assumption | omega | (simp <;> omega)) _ | refine Below.alloc ?_ (by first | exact Nat.le_refl _ | assumption | omega | (simp <;> omega)) _))
  have hrd := (Blk.new w 33 (u8s d).toArray).range
  have hd32 : (u8s d).length = 32 := by simp [u8s, hd.len]
  rw [List.toList_toArray] at hrd
  go_enter Tryz.func69, Tryz.ntmps69
  go_wp2_with fail
  obtain ⟨w1, hw1⟩ : ∃ w1, w1 = w.alloc (.cells (u8s d).toArray 33) := ⟨_, rfl⟩
  rw [← hw1] at hbA hrd ⊢
  clear hw1
  have HRD := Lib.hid hrd
  have hs1 := HS.out.below hbA
  clear hrd
  go_loopw [7] (fun i wr => ∃ k : Nat, k ≤ l.length ∧ i = .int .i64 k ∧ Hid (∀ p ∈ l.take k, (decide (p.1 = d) && decide (now ≤ p.2)) = false) ∧ Below w1.heap.size w1 wr) (fun i _ => l.length - (intOf i).toNat)
  case atStart => exact ⟨0, Nat.zero_le _, rfl, Lib.hid (by simp), Below.refl _ _⟩
  case round =>
    obtain ⟨k, hk, rfl, hno, hb⟩ := hrel
    have hbW := bstep hbA hb
    by_cases hlt : k < l.length
    · obtain ⟨b, off, rfl, hr⟩ := at_elem entP EntOk 33 entP_length (hs1.below hb) HOK.out k hlt
      replace hr : wr.rangeAt b (off + k * 33) (entP l[k]) := hr
      have hpk := HOK.out l[k] (List.getElem_mem hlt)
      obtain ⟨hr1, htc⟩ := ent_parts hr hpk
      have hr2 : wr.rangeAt w.heap.size 0 (u8s d) := fun j u hj => Below.cell' hb (HRD.out j u hj)
      have h32 : (u8s l[k].1).length = 32 := by simp [u8s, hpk.dig.len]
      have heq := run_eqD hpk.dig hd
      have hud := Tryz.underlying33
      have hua : (Tryz.prog.info? 33).map (·.size) = some (u8s l[k].1).length := by rw [h32]; kernel_rfl
      have hub : (Tryz.prog.info? 33).map (·.size) = some (u8s d).length := by rw [hd32]; kernel_rfl
      have hi0 : (0 : Int) ≤ k := by omega
      have hi1 : (k : Int) < l.length := by omega
      have HR1 := Lib.hid hr1
      have HR2 := Lib.hid hr2
      have HIN := Lib.hid (List.getElem_mem hlt)
      have hsnoc : Hid ((decide (l[k].1 = d) && decide (now ≤ l[k].2)) = false → ∀ p ∈ l.take (k + 1), (decide (p.1 = d) && decide (now ≤ p.2)) = false) := Lib.hid (fun hf p hp => by
        rw [List.take_succ_eq_append_getElem hlt, List.mem_append] at hp
        rcases hp with hp | hp
        · exact hno.out p hp
        · obtain rfl : p = l[k] := by simpa using hp
          exact hf)
      clear hr hr1 hr2
      go_wp2_with fail
      rcases Bool.eq_false_or_eq_true (decide (l[k].1 = d)) with t1 | t1 <;> rcases Bool.eq_false_or_eq_true (decide (now ≤ l[k].2)) with t2 | t2
      all_goals
        rw [t1] at heq
        refine wp_region_quiet_lit (by kernel_rfl) (by kernel_rfl) ?_
        repeat (first
          | (refine qLoad 33 (.tmp 17) (by exact rfl) (by exact rfl) (by exact rfl) HR1.out hud rfl hua ?_; simp only [Act.put, List.setIfInBounds_toArray, List.set_cons_zero, List.set_cons_succ])
          | (refine qLoad 33 (.tmp 4) (by exact rfl) (by exact rfl) (by exact rfl) HR2.out hud rfl hub ?_; simp only [Act.put, List.setIfInBounds_toArray, List.set_cons_zero, List.set_cons_succ])
          | quiet_step (fail))
        refine wpQuiet_nil ?_
        intro w2 hw2
        obtain ⟨nq, hw3⟩ := hw2
        subst hw3
        go_wp2_with fail
      · go_ret
        refine ⟨?_, bdrewN hbW _⟩
        have : (l.any fun p => decide (p.1 = d) && decide (now ≤ p.2)) = true := List.any_eq_true.2 ⟨l[k], HIN.out, by rw [t1, t2]; rfl⟩
        rw [this]
        rfl
      all_goals
        rw [t1, t2] at hsnoc
        exact ⟨⟨k + 1, by omega, by go_num, Lib.hid (hsnoc.out rfl), bdrewN hb _⟩, by simp [intOf]; omega⟩
    · obtain rfl : k = l.length := by omega
      rw [List.take_length] at hno
      go_wp2_with fail
      go_ret
      refine ⟨?_, hbW⟩
      have : (l.any fun p => decide (p.1 = d) && decide (now ≤ p.2)) = false := List.any_eq_false.2 fun p hp => by rw [hno.out p hp]; simp
      rw [this]
      rfl
end Go.Proofs.YtombncedfleljaaGreat
namespace Go.Proofs.YtombncedfleljaaGreat
set_option maxRecDepth 100000
open Go.RowKit

theorem ent_cell {w : World} {g : Nat} {T : TypeId} {p : List Int × Int} (h : Blk w g T (entP p).toArray) (hp : EntOk p) : w.rangeAt g 0 (u8s p.1) ∧ w.cell? ⟨g, 32, none⟩ = some (.int .i64 p.2) := by
  have h32 : (u8s p.1).length = 32 := by simp [u8s, hp.dig.len]
  constructor
  · intro j u hj
    rw [Nat.zero_add, h.cell j]
    have hlt := (List.getElem?_eq_some_iff.1 hj).1
    simp only [List.getElem?_toArray, entP, entC]
    rw [List.getElem?_append_left hlt]
    exact hj
  · rw [h.cell 32]
    simp only [List.getElem?_toArray, entP, entC]
    rw [List.getElem?_append_right (by omega), h32]
    rfl

theorem calls_at {P : Program} {f : FuncId} {args : Array Value} {Q : Ending → World → Prop} (w' : World) (h : ∀ w1, w1 = w' → Calls P f args w1 Q) : Calls P f args w' Q := h _ rfl

set_option maxHeartbeats 1000000 in
theorem compare_grow (p q : List Int × Int) (w : World) (hp : EntOk p) (hq : EntOk q) :
    Calls Tryz.prog 60 #[.agg (entP p).toArray, .agg (entP q).toArray] w fun e w' => e = .returned (.int .i64 (cmpE p q)) ∧ ∃ (n : Nat) (os : Array Obj), w' = Sort.grow (w.drewN n) os := by
  have hbA : Below w.heap.size w ((w.alloc (.cells (entP p).toArray 35)).alloc (.cells (entP q).toArray 35)) := (by repeat (first | exact Below.refl _ _ | assumption | refine bdrewN ?_ _ | refine Below.setCell ?_ (by first | exact Nat.le_refl _ | assumption | omega | (simp <;> omega)) _ | refine Below.alloc ?_ (by first | exact Nat.le_refl _ | assumption | omega | (simp <;> omega)) _))
  have hB1 := (Blk.new w 35 (entP p).toArray).alloc (.cells (entP q).toArray 35)
  have hB2 := Blk.newAt (w.alloc (.cells (entP p).toArray 35)) 35 (entP q).toArray (w.heap.size + 1) (by simp)
  obtain ⟨hr1, hc1⟩ := ent_cell hB1 hp
  obtain ⟨hr2, hc2⟩ := ent_cell hB2 hq
  have l1 := entP_length p hp
  have l2 := entP_length q hq
  go_enter Tryz.func60, Tryz.ntmps60
  have HR1 := Lib.hid hr1
  have HR2 := Lib.hid hr2
  clear hB1 hB2 hr1 hr2
  rcases Bool.eq_false_or_eq_true (cmpI p.2 q.2 == 0) with t1 | t1
  all_goals
    go_wp2_with fail
    refine calls_at ((w.alloc (.cells (entP p).toArray 35)).alloc (.cells (entP q).toArray 35)) (fun w1 hw1 => ?_)
    rw [← hw1] at hbA HR1 HR2
    have HW : Hid (w1 = Sort.grow (w.drewN 0) #[.cells (entP p).toArray 35, .cells (entP q).toArray 35]) := Lib.hid (by rw [hw1, Sort.alloc_eq_grow, Sort.alloc_eq_grow, Sort.grow_grow]; rfl)
    clear hw1 hc1 hc2
    refine (cmp_Compare p.2 q.2 w1).mono ?_
    rintro e w2 ⟨rfl, rfl⟩
    go_wp2_with fail
  · go_region_held3 (fun w' => w'.rangeAt w.heap.size 0 (u8s p.1) ∧ w'.rangeAt (w.heap.size + 1) 0 (u8s q.1) ∧ Below w.heap.size w w')
      (first
        | (refine ⟨HR1.out, HR2.out, hbA.drew⟩)
        | (go_split_ands; exact ⟨by assumption, by assumption, by assumption⟩))
      ((go_at_call 86; refine (bytes_Compare _ _ _ _ p.1 q.1 _ hp.dig hq.dig (by go_split_ands; assumption) (by go_split_ands; assumption)).mono ?_; rintro e wX ⟨rfl, rfl⟩))
    all_goals
      go_wp2_with fail
      go_ret
      have u1 : cmpI p.2 q.2 = 0 := by simpa using t1
      refine ⟨?_, 1, _, by rw [HW.out]; rfl⟩
      unfold cmpE
      rw [if_neg (by rw [u1]; simp)]
      rfl
  · go_ret
    have u1 : cmpI p.2 q.2 ≠ 0 := by simpa using t1
    refine ⟨?_, 0, _, HW.out⟩
    unfold cmpE
    rw [if_pos u1]
    rfl

theorem below_grow {w : World} (d : Nat) (os : Array Obj) : Below w.heap.size w (Sort.grow (w.drewN d) os) :=
  ⟨rfl, rfl, rfl, by simp [Sort.grow], fun k hk => by
    show ((w.drewN d).heap ++ os)[k]? = _
    rw [Array.getElem?_append_left (show k < (w.drewN d).heap.size from hk)]; rfl⟩
theorem compare_any (p q : List Int × Int) (w : World) (hp : EntOk p) (hq : EntOk q) :
    Calls Tryz.prog 60 #[.agg (entP p).toArray, .agg (entP q).toArray] w fun e w' => e = .returned (.int .i64 (cmpE p q)) ∧ Below w.heap.size w w' := by
  refine (compare_grow p q w hp hq).mono ?_
  rintro e w' ⟨rfl, n, os, rfl⟩
  exact ⟨rfl, below_grow n os⟩

set_option maxHeartbeats 1000000 in
theorem ref_compare_any (p q : List Int × Int) (w : World) (hp : EntOk p) (hq : EntOk q) :
    Calls Tryz.prog 35 #[.agg (entP p).toArray, .agg (entP q).toArray] w fun e w' => e = .returned (.int .i64 (cmpE p q)) ∧ Below w.heap.size w w' := by
  have hbA : Below w.heap.size w ((w.alloc (.cells (entP p).toArray 35)).alloc (.cells (entP q).toArray 35)) := (by repeat (first | exact Below.refl _ _ | assumption | refine bdrewN ?_ _ | refine Below.setCell ?_ (by first | exact Nat.le_refl _ | assumption | omega | (simp <;> omega)) _ | refine Below.alloc ?_ (by first | exact Nat.le_refl _ | assumption | omega | (simp <;> omega)) _))
  have hB1 := (Blk.new w 35 (entP p).toArray).alloc (.cells (entP q).toArray 35)
  have hB2 := Blk.newAt (w.alloc (.cells (entP p).toArray 35)) 35 (entP q).toArray (w.heap.size + 1) (by simp)
  obtain ⟨hr1, hc1⟩ := ent_cell hB1 hp
  obtain ⟨hr2, hc2⟩ := ent_cell hB2 hq
  have HR1 := Lib.hid hr1
  have HR2 := Lib.hid hr2
  clear hB1 hB2 hr1 hr2
  have hdp := hp.dig.len
  have hdq := hq.dig.len
  rcases Bool.eq_false_or_eq_true (p.2 != q.2) with t1 | t1
  · have u1 : p.2 ≠ q.2 := by simpa using t1
    rcases Bool.eq_false_or_eq_true (decide (p.2 < q.2)) with t2 | t2
    all_goals
      go_enter Tryz.func35, Tryz.ntmps35
      go_wp2_with fail
      go_ret
      refine ⟨?_, hbA⟩
      unfold cmpE cmpI
    · have := of_decide_eq_true t2
      simp [this]
    · have := of_decide_eq_false t2
      have h3 : q.2 < p.2 := by omega
      simp [this, h3]
  · go_enter Tryz.func35, Tryz.ntmps35
    go_wp2_with fail
    obtain ⟨w1, hw1⟩ : ∃ w1, w1 = (w.alloc (.cells (entP p).toArray 35)).alloc (.cells (entP q).toArray 35) := ⟨_, rfl⟩
    rw [← hw1] at hbA HR1 HR2 ⊢
    clear hw1 hc1 hc2
    have u1 : p.2 = q.2 := by simpa using t1
    have HE : Hid (cmpE p q = cmpD p.1 q.1) := Lib.hid (by unfold cmpE cmpI; simp [u1])
    clear u1 t1
    go_loopw [5] (fun i wr => ∃ k : Nat, k ≤ 32 ∧ i = .int .i64 k ∧ Hid (cmpD p.1 q.1 = cmpD (p.1.drop k) (q.1.drop k)) ∧ Below w1.heap.size w1 wr) (fun i _ => 32 - (intOf i).toNat)
    case atStart => exact ⟨0, Nat.zero_le _, rfl, Lib.hid rfl, Below.refl _ _⟩
    case round =>
      obtain ⟨k, hk, rfl, hD, hb⟩ := hrel
      have hbW := bstep hbA hb
      rcases Nat.lt_or_ge k 32 with hlt | hge
      · have hk1 : k < p.1.length := by omega
        have hk2 : k < q.1.length := by omega
        have c1 : wr.cell? ⟨w.heap.size, k, none⟩ = some (.int .u8 p.1[k]) := Below.cell' hb (by have := HR1.out k (.int .u8 p.1[k]) (by simp [u8s, hk1]); simpa using this)
        have c2 : wr.cell? ⟨w.heap.size + 1, k, none⟩ = some (.int .u8 q.1[k]) := Below.cell' hb (by have := HR2.out k (.int .u8 q.1[k]) (by simp [u8s, hk2]); simpa using this)
        have hstep : Hid (cmpD p.1 q.1 = if p.1[k] < q.1[k] then -1 else if q.1[k] < p.1[k] then 1 else cmpD (p.1.drop (k + 1)) (q.1.drop (k + 1))) := Lib.hid (by
          rw [hD.out, List.drop_eq_getElem_cons hk1, List.drop_eq_getElem_cons hk2]
          rfl)
        obtain ⟨x, hx⟩ : ∃ x, x = p.1[k] := ⟨_, rfl⟩
        obtain ⟨y, hy⟩ : ∃ y, y = q.1[k] := ⟨_, rfl⟩
        rw [← hx] at c1 hstep
        rw [← hy] at c2 hstep
        clear hx hy
        have hi0 : (0 : Int) ≤ k := by omega
        have hi1 : (k : Int) < 32 := by omega
        rcases Bool.eq_false_or_eq_true (decide (x < y)) with t1 | t1
        · go_wp2_with fail
          go_quiet (fail)
          go_wp2_with fail
          go_ret
          refine ⟨?_, bdrewN hbW _⟩
          rw [HE.out, hstep.out, if_pos (of_decide_eq_true t1)]
          rfl
        rcases Bool.eq_false_or_eq_true (decide (y < x)) with t2 | t2
        · go_wp2_with fail
          go_quiet (fail)
          go_wp2_with fail
          go_quiet (fail)
          go_wp2_with fail
          go_ret
          refine ⟨?_, (by repeat (first | exact Below.refl _ _ | assumption | refine bdrewN ?_ _ | refine Below.setCell ?_ (by first | exact Nat.le_refl _ | assumption | omega | (simp <;> omega)) _ | refine Below.alloc ?_ (by first | exact Nat.le_refl _ | assumption | omega | (simp <;> omega)) _))⟩
          rw [HE.out, hstep.out, if_neg (of_decide_eq_false t1), if_pos (of_decide_eq_true t2)]
          rfl
        · go_wp2_with fail
          go_quiet (fail)
          go_wp2_with fail
          go_quiet (fail)
          go_wp2_with fail
          refine ⟨⟨k + 1, by omega, by go_num, Lib.hid ?_, (by repeat (first | exact Below.refl _ _ | assumption | refine bdrewN ?_ _ | refine Below.setCell ?_ (by first | exact Nat.le_refl _ | assumption | omega | (simp <;> omega)) _ | refine Below.alloc ?_ (by first | exact Nat.le_refl _ | assumption | omega | (simp <;> omega)) _))⟩, by simp [intOf]; omega⟩
          rw [hstep.out, if_neg (of_decide_eq_false t1), if_neg (of_decide_eq_false t2)]
      · obtain rfl : k = 32 := by omega
        go_wp2_with fail
        go_ret
        refine ⟨?_, hbW⟩
        rw [HE.out, hD.out, List.drop_of_length_le (by omega), List.drop_of_length_le (by omega)]
        rfl
end Go.Proofs.YtombncedfleljaaGreat
namespace Go.Proofs.YtombncedfleljaaGreat
open Go.RowKit
section
variable {P : Program} {ops : Array Oper} {Q : Exit → Act → World → Prop} {S : World → Prop} {a : Act} {w : World} {listed : Array Bool} {fuel : Nat}
theorem held_start (n : Nat) (S : World → Prop) {id : Nat} (hm : P.follows .mixedOrders = true) (hn : ops.size = n) (hS : S w.drew)
    (h : S w.drew → wpAnyH P .any ops Q S n (Array.replicate n false) a w.drew) : (Code.region id ops true).wp P Q a w := by
  subst hn
  exact wp_region_held_drew hm hS h
/-- Operation i yields v in every world that meets S: it is taken first. -/
theorem hTake (i : Nat) (op : Op) (dst : Option Tmp) (v : Value) (hd : (ops[i]?).map (fun o => (o.op, o.dst)) = some (op, dst)) (hw : (ops[i]?).map (fun o => Region.wanted o (yielded ops a.tmps)) = some true)
    (hs : Region.noSelect ops = true) (hf : Region.free .any ops listed i = true) (hr : (Region.ready .any ops listed).contains i = true)
    (hQ : ∀ c a w, Q (.panic c) (a.put dst v) w → Q (.panic c) a w) (hy : ∀ o : Oper, o.op = op → ∀ w, S w → (execOp a.eval o).run P w = .ok (.value v) w) (hS : S w)
    (h : wpAnyH P .any ops Q S fuel (listed.setIfInBounds i true) (a.put dst v) w) : wpAnyH P .any ops Q S (fuel + 1) listed a w := by
  cases ho : ops[i]? with
  | none => rw [ho] at hd; cases hd
  | some o =>
    rw [ho] at hd hw
    simp only [Option.map_some, Option.some.injEq, Prod.mk.injEq] at hd hw
    obtain ⟨h1, h2⟩ := hd
    subst h2
    exact wpAnyH_take ho hs hf hr hQ (.inl ⟨hw, hy o h1⟩) hS h
/-- A guarded operation that is not wanted. -/
theorem hSkip (i : Nat) (dst : Option Tmp) (hd : (ops[i]?).map (·.dst) = some dst) (hw : (ops[i]?).map (fun o => Region.wanted o (yielded ops a.tmps)) = some false)
    (hs : Region.noSelect ops = true) (hf : Region.free .any ops listed i = true) (hr : (Region.ready .any ops listed).contains i = true)
    (hQ : ∀ c a w, Q (.panic c) (a.put dst undef) w → Q (.panic c) a w) (hS : S w)
    (h : wpAnyH P .any ops Q S fuel (listed.setIfInBounds i true) (a.put dst undef) w) : wpAnyH P .any ops Q S (fuel + 1) listed a w := by
  cases ho : ops[i]? with
  | none => rw [ho] at hd; cases hd
  | some o =>
    rw [ho] at hd hw
    simp only [Option.map_some, Option.some.injEq] at hd hw
    subst hd
    exact wpAnyH_take ho hs hf hr hQ (.inr ⟨hw, rfl⟩) hS h
/-- A row is loaded. -/
theorem hLoad (i : Nat) (ty : TypeId) (x : Operand) (dst : Option Tmp) {b off : Nat} {cs : List Value} {d : TypeDesc} (hd : (ops[i]?).map (fun o => (o.op, o.dst)) = some (.load ty x, dst)) (hw : (ops[i]?).map (fun o => Region.wanted o (yielded ops a.tmps)) = some true)
    (hs : Region.noSelect ops = true) (hf : Region.free .any ops listed i = true) (hr : (Region.ready .any ops listed).contains i = true)
    (hQ : ∀ c a w, Q (.panic c) (a.put dst (.agg cs.toArray)) w → Q (.panic c) a w) (hx : a.eval x = .pointer (some ⟨b, off, none⟩)) (hc : ∀ w, S w → w.rangeAt b off cs) (hu : P.underlying ty = some d) (hr' : d.isRow = true) (hi : (P.info? ty).map (·.size) = some cs.length) (hS : S w)
    (h : wpAnyH P .any ops Q S fuel (listed.setIfInBounds i true) (a.put dst (.agg cs.toArray)) w) : wpAnyH P .any ops Q S (fuel + 1) listed a w :=
  hTake i _ dst _ hd hw hs hf hr hQ (fun o ho w hw => by
    unfold execOp
    simp only [ho, hx, Instr.loadAt, Instr.sureAddr, Sem.run_bind, Sem.run_pure, Result.andThen_ok, run_loadVar_mid w b off ty cs d (hc w hw) hu hr' hi]) hS h
/-- A cell is loaded. -/
theorem hMove (i : Nat) (x : Operand) (dst : Option Tmp) (v : Value) (hd : (ops[i]?).map (fun o => (o.op, o.dst)) = some (.move x, dst)) (hw : (ops[i]?).map (fun o => Region.wanted o (yielded ops a.tmps)) = some true)
    (hs : Region.noSelect ops = true) (hf : Region.free .any ops listed i = true) (hr : (Region.ready .any ops listed).contains i = true)
    (hQ : ∀ c a w, Q (.panic c) (a.put dst v) w → Q (.panic c) a w) (hx : a.eval x = v) (hS : S w)
    (h : wpAnyH P .any ops Q S fuel (listed.setIfInBounds i true) (a.put dst v) w) : wpAnyH P .any ops Q S (fuel + 1) listed a w :=
  hTake i _ dst _ hd hw hs hf hr hQ (fun o ho w _ => by
    unfold execOp
    simp only [ho, hx, Sem.run_pure]) hS h
/-- One of those that may come up: a row is loaded. -/
theorem rLoad {rs : List Nat} (i : Nat) (ty : TypeId) (x : Operand) (dst : Option Tmp) {b off : Nat} {cs : List Value} {d : TypeDesc} (hd : (ops[i]?).map (fun o => (o.op, o.dst)) = some (.load ty x, dst)) (hw : (ops[i]?).map (fun o => Region.wanted o (yielded ops a.tmps)) = some true)
    (hx : a.eval x = .pointer (some ⟨b, off, none⟩)) (hc : w.rangeAt b off cs) (hu : P.underlying ty = some d) (hr' : d.isRow = true) (hi : (P.info? ty).map (·.size) = some cs.length)
    (h : wpAnyH P .any ops Q (fun _ => True) fuel (listed.setIfInBounds i true) (a.put dst (.agg cs.toArray)) w) (hs : AllReadyH P .any ops Q (fun _ => True) fuel listed a w rs) : AllReadyH P .any ops Q (fun _ => True) fuel listed a w (i :: rs) := by
  cases ho : ops[i]? with
  | none => rw [ho] at hd; cases hd
  | some o =>
    rw [ho] at hd hw
    simp only [Option.map_some, Option.some.injEq, Prod.mk.injEq] at hd hw
    obtain ⟨h1, h2⟩ := hd
    subst h2
    refine AllReadyH.cons ho (fun K hK => ?_) hs
    rw [if_pos hw]
    exact wp_load_mid ty x h1 b off hx cs d hc hu hr' hi (hK.out _ _ trivial (fun _ => h))
/-- One of those that may come up: a row is stored. -/
theorem rStore {rs : List Nat} (i : Nat) (ty : TypeId) (x y : Operand) (dst : Option Tmp) {b off : Nat} {cs : List Value} (hd : (ops[i]?).map (fun o => (o.op, o.dst)) = some (.store ty x y, dst)) (hw : (ops[i]?).map (fun o => Region.wanted o (yielded ops a.tmps)) = some true)
    (hx : a.eval x = .pointer (some ⟨b, off, none⟩)) (hy : a.eval y = .agg cs.toArray) (ht : w.there b off cs.length) (hi : (P.info? ty).map (·.size) = some cs.length) (h1 : ∀ u ∈ cs, u.oneCell' = true)
    (h : wpAnyH P .any ops Q (fun _ => True) fuel (listed.setIfInBounds i true) (a.put dst undef) (w.setCells b off cs)) (hs : AllReadyH P .any ops Q (fun _ => True) fuel listed a w rs) : AllReadyH P .any ops Q (fun _ => True) fuel listed a w (i :: rs) := by
  cases ho : ops[i]? with
  | none => rw [ho] at hd; cases hd
  | some o =>
    rw [ho] at hd hw
    simp only [Option.map_some, Option.some.injEq, Prod.mk.injEq] at hd hw
    obtain ⟨h2, h3⟩ := hd
    subst h3
    refine AllReadyH.cons ho (fun K hK => ?_) hs
    rw [if_pos hw]
    refine wp_store_mid ty x y h2 b off cs.toArray hx hy (by simpa using ht) (by simpa using hi) (all_oneCell_toArray h1) ?_
    rw [List.toList_toArray]
    exact hK.out _ _ trivial (fun _ => h)
/-- One of those that may come up: it yields v and leaves w2. -/
theorem rStep {rs : List Nat} (i : Nat) (op : Op) (dst : Option Tmp) (v : Value) (w2 : World) (hd : (ops[i]?).map (fun o => (o.op, o.dst)) = some (op, dst)) (hw : (ops[i]?).map (fun o => Region.wanted o (yielded ops a.tmps)) = some true)
    (hrun : ∀ o : Oper, o.op = op → (execOp a.eval o).run P w = .ok (.value v) w2) (hS : S w2)
    (h : wpAnyH P .any ops Q S fuel (listed.setIfInBounds i true) (a.put dst v) w2) (hs : AllReadyH P .any ops Q S fuel listed a w rs) : AllReadyH P .any ops Q S fuel listed a w (i :: rs) := by
  cases ho : ops[i]? with
  | none => rw [ho] at hd; cases hd
  | some o =>
    rw [ho] at hd hw
    simp only [Option.map_some, Option.some.injEq, Prod.mk.injEq] at hd hw
    obtain ⟨h2, h3⟩ := hd
    subst h3
    refine AllReadyH.cons ho (fun K hK => ?_) hs
    rw [if_pos hw]
    unfold Oper.wp
    rw [hrun o h2, Oper.upon_value]
    exact hK.out _ _ hS (fun _ => h)
/-- One of those that may come up: a row is stored. -/
theorem rStoreS {rs : List Nat} (i : Nat) (ty : TypeId) (x y : Operand) (dst : Option Tmp) {b off : Nat} {cs : List Value} (hd : (ops[i]?).map (fun o => (o.op, o.dst)) = some (.store ty x y, dst)) (hw : (ops[i]?).map (fun o => Region.wanted o (yielded ops a.tmps)) = some true)
    (hx : a.eval x = .pointer (some ⟨b, off, none⟩)) (hy : a.eval y = .agg cs.toArray) (ht : w.there b off cs.length) (hi : (P.info? ty).map (·.size) = some cs.length) (h1 : ∀ u ∈ cs, u.oneCell' = true) (hS : S (w.setCells b off cs))
    (h : wpAnyH P .any ops Q S fuel (listed.setIfInBounds i true) (a.put dst undef) (w.setCells b off cs)) (hs : AllReadyH P .any ops Q S fuel listed a w rs) : AllReadyH P .any ops Q S fuel listed a w (i :: rs) := by
  cases ho : ops[i]? with
  | none => rw [ho] at hd; cases hd
  | some o =>
    rw [ho] at hd hw
    simp only [Option.map_some, Option.some.injEq, Prod.mk.injEq] at hd hw
    obtain ⟨h2, h3⟩ := hd
    subst h3
    refine AllReadyH.cons ho (fun K hK => ?_) hs
    rw [if_pos hw]
    refine wp_store_mid ty x y h2 b off cs.toArray hx hy (by simpa using ht) (by simpa using hi) (all_oneCell_toArray h1) ?_
    rw [List.toList_toArray]
    exact hK.out _ _ hS (fun _ => h)
/-- One of those that may come up: a call of a Go function. -/
theorem rCall {rs : List Nat} (i : Nat) (op : Op) (dst : Option Tmp) (f : FuncId) (args : Array Value) (hd : (ops[i]?).map (fun o => (o.op, o.dst)) = some (op, dst)) (hw : (ops[i]?).map (fun o => Region.wanted o (yielded ops a.tmps)) = some true)
    (hent : ∀ o : Oper, o.op = op → (execOp a.eval o).run P w = .ok (.enter f args) w)
    (h : Calls P f args w fun e w' => ∃ v, e = .returned v ∧ S w' ∧ (S w' → wpAnyH P .any ops Q S fuel (listed.setIfInBounds i true) (a.put dst v) w')) (hs : AllReadyH P .any ops Q S fuel listed a w rs) : AllReadyH P .any ops Q S fuel listed a w (i :: rs) := by
  cases ho : ops[i]? with
  | none => rw [ho] at hd; cases hd
  | some o =>
    rw [ho] at hd hw
    simp only [Option.map_some, Option.some.injEq, Prod.mk.injEq] at hd hw
    obtain ⟨h2, h3⟩ := hd
    subst h3
    refine AllReadyH.cons ho (fun K hK => ?_) hs
    rw [if_pos hw]
    unfold Oper.wp
    rw [hent o h2, Oper.upon_enter]
    refine h.mono ?_
    rintro e w' ⟨v, rfl, hS, hk⟩
    exact hK.out _ _ hS hk
/-- One of those that may come up: a variable of many cells is made. -/
theorem rAlloc {rs : List Nat} (i : Nat) (ty : TypeId) (dst : Option Tmp) (zs : Array Value) (hd : (ops[i]?).map (fun o => (o.op, o.dst)) = some (.alloc ty, dst)) (hw : (ops[i]?).map (fun o => Region.wanted o (yielded ops a.tmps)) = some true)
    (hz : ∀ w, (zeroValue ty).run P w = .ok (.agg zs) w) (hS : S (w.alloc (.cells zs ty)))
    (h : wpAnyH P .any ops Q S fuel (listed.setIfInBounds i true) (a.put dst (.pointer (some ⟨w.heap.size, 0, none⟩))) (w.alloc (.cells zs ty))) (hs : AllReadyH P .any ops Q S fuel listed a w rs) : AllReadyH P .any ops Q S fuel listed a w (i :: rs) :=
  rStep i (.alloc ty) dst _ _ hd hw (fun o ho => by
    unfold execOp
    simp only [ho]
    unfold Instr.alloc newVar newRow
    simp [Sem.run_bind, hz, Value.cells]) hS h hs
end
end Go.Proofs.YtombncedfleljaaGreat
