/- The law TallySums: its walk. -/
import Derived.Test.YtdidohfdedkfaaaDoorLaw28c
import Derived.Test.YtdidohfdedkfaaaDoorElems
namespace Go.Proofs.YtdidohfdedkfaaaDoor
open Go.RowKit Go.ChangeShapes Go.WideShapes Go.Deep

def talC (t : Int × Int) : List Value := [.int .i64 t.1, .int .i64 t.2]
def TalOk (t : Int × Int) : Prop := isI64 t.1 ∧ isI64 t.2
theorem talC_length (t : Int × Int) (_ : TalOk t) : (talC t).length = 2 := rfl
theorem tal_elem {H : Type} {enc : TypeId × Value → H} {w : World} {base : Nat} {held : Bool} (fuel : Nat) (cs : List Value) (x : DataW H × List MemPlace) (h : DataW.trod enc Tryd.prog w base (fun _ => true) held fuel 30 cs = some x) : ∃ r, TalOk r ∧ cs = talC r := by
  obtain ⟨xs, n, _, _, hl, hx, hf⟩ := DataW.trod_struct Tryd.underlying30 h
  have hC : Tryd.prog.cellsOf 30 = 2 := by kernel_rfl
  rw [hC] at hl
  have hx2 : xs.length = 2 := hx
  have g : ∀ i, i < 2 → xs[i]? = some (xs[i]?.getD (.nil, [])) := fun i hi => by simp [List.getElem?_eq_getElem (show i < xs.length by omega)]
  have f0 := (hf 0 _ rfl).trans (g 0 (by omega))
  have f1 := (hf 1 _ rfl).trans (g 1 (by omega))
  obtain ⟨k0, h0, _, w0⟩ := DataW.trod_int Tryd.underlying3 f0
  obtain ⟨k1, h1, _, w1⟩ := DataW.trod_int Tryd.underlying3 f1
  have c0 : Tryd.prog.cellsOf 3 = 1 := by kernel_rfl
  replace h0 : (cs.drop 0).take (Tryd.prog.cellsOf 3) = [.int .i64 k0] := h0
  replace h1 : (cs.drop 1).take (Tryd.prog.cellsOf 3) = [.int .i64 k1] := h1
  rw [c0] at h0 h1
  refine ⟨(k0, k1), ⟨isI64_of w0, isI64_of w1⟩, ?_⟩
  match cs, hl with
  | [v0, v1], _ =>
    simp at h0 h1
    subst h0 h1
    rfl
theorem open_tals {H : Type} {enc : TypeId × Value → H} {w : World} {base : Nat} {held : Bool} {fuel : Nat} {A : Option Addr} {len cap : Nat} {x : DataW H × List MemPlace} (h : DataW.trod enc Tryd.prog w base (fun _ => true) held fuel 42 [.slice A len cap] = some x) :
    ∃ l : List (Int × Int), l.length = len ∧ (∀ r ∈ l, TalOk r) ∧ Sn w 2 (.slice A len cap) len (l.flatMap talC) :=
  open_elems talC TalOk 2 (by decide) talC_length Tryd.underlying42 (by kernel_rfl) tal_elem h

def InR (t : Int × Int) : Prop := 0 ≤ t.1 ∧ 0 ≤ t.2 ∧ t.1 ≤ 1099511627776 ∧ t.2 ≤ 1099511627776
def nats (l : List (Int × Int)) : List (Nat × Nat) := l.map fun t => (t.1.toNat, t.2.toNat)
theorem nats_snoc (l : List (Int × Int)) (k : Nat) (h : k < l.length) (a b : Nat) (ha : l[k].1 = a) (hb : l[k].2 = b) : nats (l.take (k + 1)) = nats (l.take k) ++ [(a, b)] := by
  unfold nats
  rw [List.take_succ_eq_append_getElem h, List.map_append]
  simp [ha, hb]
theorem sum_app (l : List (Nat × Nat)) (a b : Nat) : sum1 (l ++ [(a, b)]) = sum1 l + a ∧ sum2 (l ++ [(a, b)]) = sum2 l + b := by simp [sum1, sum2]
theorem sum_nats_le (l : List (Int × Int)) (h : ∀ t ∈ l, InR t) : sum1 (nats l) ≤ 1099511627776 * l.length ∧ sum2 (nats l) ≤ 1099511627776 * l.length := by
  induction l with
  | nil => exact ⟨Nat.le_refl _, Nat.le_refl _⟩
  | cons t l ih =>
    have ih := ih (fun t ht => h t (by simp [ht]))
    obtain ⟨h1, h2, h3, h4⟩ := h t (by simp)
    simp only [nats, sum1, sum2, List.map_cons, List.sum_cons, List.length_cons] at ih ⊢
    omega
theorem cxs_snoc (l : List (Nat × Nat)) (a b : Nat) : cxs (l ++ [(a, b)]) = cxs l ++ [cx a b] := by simp [cxs]
theorem tCx : SlT Tryd.prog 43 32 1 16 := SlT.mk' Tryd.underlying43 (z := .complex .f64 0 0) (by kernel_rfl) rfl (by decide)
attribute [irreducible] nats
theorem own_set {w : World} {base e s n : Nat} {v : Value} {xs : List Value} {p : Addr} (h : w.ownsRow base e s v n xs) (hp : p.block < base) (u : Value) : (w.setCell p u).ownsRow base e s v n xs := by
  refine ⟨h.1, ?_⟩
  rcases h.2 with h2 | ⟨g, cap, cur, rfl, hg, hh, r⟩
  · exact .inl h2
  · exact .inr ⟨g, cap, cur, rfl, hg, by rw [Below.heap_setCell w p u g (by omega)]; exact hh, r⟩

set_option maxRecDepth 100000 in
set_option maxHeartbeats 4000000 in
theorem sums_any (va : Value) (l : List (Int × Int)) (w : World) (ht : Tab w) (hs : Sn w 2 va l.length (l.flatMap talC)) (hok : ∀ r ∈ l, TalOk r) :
    Calls Tryd.prog 5 #[va] w fun e w' => e = .returned (.bool true) ∧ Below w.heap.size w w' := by
  obtain ⟨A, cap, rfl, hcap, _, _⟩ := id hs
  have HS := Lib.hid hs
  have HOK := Lib.hid hok
  clear hs hok
  rcases Bool.eq_false_or_eq_true (decide ((100 : Int) < l.length)) with d1 | d1
  · go_enter Tryd.func5, Tryd.ntmps5
    go_wp2_with fail
    refine (awake_any w ht).mono ?_
    rintro e w1 ⟨rfl, hb1⟩
    go_wp2_with fail
    refine (awake_any w1 (ht.below hb1)).mono ?_
    rintro e w2 ⟨rfl, hb2⟩
    go_wp2_with fail
    go_ret
    exact ⟨rfl, bstep hb1 hb2⟩
  · have hl : l.length ≤ 100 := by have := of_decide_eq_false d1; omega
    go_enter Tryd.func5, Tryd.ntmps5
    go_wp2_with fail
    refine (awake_any w ht).mono ?_
    rintro e w1 ⟨rfl, hb1⟩
    have hs1 := HS.out.below hb1
    go_wp2_with fail
    have hb1s := hb1.size
    go_loopw [4, 5] (fun m i wr => ∃ k : Nat, k ≤ l.length ∧ i = .int .i64 k ∧ Hid (∀ t ∈ l.take k, InR t) ∧ wr.ownsRow (w1.heap.size + 1) 32 1 m k (cxs (nats (l.take k))) ∧ Blk wr w1.heap.size 30 #[.int .i64 (sum1 (nats (l.take k))), .int .i64 (sum2 (nats (l.take k)))] ∧ Below w1.heap.size w1 wr) (fun _ i _ => l.length - (intOf i).toNat)
    case atStart => exact ⟨0, Nat.zero_le _, rfl, Lib.hid (by intro t h; simp at h), by unfold nats; exact World.ownsRow_nil _ _ _ _, by unfold nats; exact Blk.new _ _ _, (by repeat (first | exact Below.refl _ _ | assumption | refine bdrewN ?_ _ | refine Below.setCell ?_ (by first | exact Nat.le_refl _ | assumption | omega | (simp <;> omega)) _ | refine Below.alloc ?_ (by first | exact Nat.le_refl _ | assumption | omega | (simp <;> omega)) _))⟩
    case round =>
      obtain ⟨k, hk, rfl, hall, hown, hB, hb⟩ := hrel
      have hBlt := hB.lt
      by_cases hlt : k < l.length
      · obtain ⟨b, off, rfl, hr⟩ := at_elem talC TalOk 2 talC_length (hs1.below hb) HOK.out k hlt
        have hc0 : wr.cell? ⟨b, off + k * 2, none⟩ = some (.int .i64 l[k].1) := hr 0 _ rfl
        have hc1 : wr.cell? ⟨b, off + k * 2 + 1, none⟩ = some (.int .i64 l[k].2) := hr 1 _ rfl
        have hi0 : (0 : Int) ≤ k := by omega
        have hi1 : (k : Int) < l.length := by omega
        clear hr
        by_cases hin : InR l[k]
        · obtain ⟨p1, p2, p3, p4⟩ := id hin
          obtain ⟨x, hx⟩ : ∃ x : Nat, l[k].1 = x := ⟨l[k].1.toNat, by omega⟩
          obtain ⟨y, hy⟩ : ∃ y : Nat, l[k].2 = y := ⟨l[k].2.toNat, by omega⟩
          have HN := Lib.hid (nats_snoc l k hlt x y hx hy)
          have hall2 : Hid (∀ t ∈ l.take (k + 1), InR t) := Lib.hid (by
            intro r hr
            rw [List.take_succ_eq_append_getElem hlt] at hr
            rcases List.mem_append.1 hr with h | h
            · exact hall.out r h
            · obtain rfl : r = l[k] := by simpa using h
              exact hin)
          rw [hx] at hc0 p1 p3
          rw [hy] at hc1 p2 p4
          have hle := sum_nats_le (l.take k) hall.out
          have bl : (l.take k).length ≤ k := List.length_take_le _ _
          have hb2 : 1099511627776 * (l.take k).length ≤ 1099511627776 * 100 := Nat.mul_le_mul_left _ (by omega)
          obtain ⟨S1, hS1⟩ : ∃ S, S = sum1 (nats (l.take k)) := ⟨_, rfl⟩
          obtain ⟨S2, hS2⟩ : ∃ S, S = sum2 (nats (l.take k)) := ⟨_, rfl⟩
          rw [← hS1, ← hS2] at hB hle
          have HS1 := Lib.hid hS1
          have HS2 := Lib.hid hS2
          have b0 := hB.cell 0
          have b1 := hB.cell 1
          simp only [List.getElem?_toArray, List.getElem?_cons_zero, List.getElem?_cons_succ] at b0 b1
          have f0 := hB.frozen 0
          have f1 := hB.frozen 1
          have t1 : decide ((x : Int) < 0) = false := by simp
          have t2 : decide ((y : Int) < 0) = false := by simp
          have t3 : decide ((1099511627776 : Int) < x) = false := by simp; omega
          have t4 : decide ((1099511627776 : Int) < y) = false := by simp; omega
          have e1 : IntKind.i64.wrap ((S1 : Int) + x) = ((S1 + x : Nat) : Int) := by rw [IntWalk.i64_in _ (by omega)]; simp
          have e2 : IntKind.i64.wrap ((S2 : Int) + y) = ((S2 + y : Nat) : Int) := by rw [IntWalk.i64_in _ (by omega)]; simp
          have hsr := hb.size
          clear hS1 hS2 hx hy hin hb2
          have hB2 := ((hB.set_ 0 (.int .i64 ((S1 : Int) + x))).set_ 1 (.int .i64 ((S2 : Int) + y))).alloc (.cells #[.int .i64 x, .int .i64 y] 30)
          have ho2 := own_below (own_set (own_set hown (p := ⟨w1.heap.size, 0, none⟩) (Nat.lt_succ_self _) (.int .i64 ((S1 : Int) + x))) (p := ⟨w1.heap.size, 1, none⟩) (Nat.lt_succ_self _) (.int .i64 ((S2 : Int) + y))) ((Below.refl _ _).alloc (Nat.le_refl _) (.cells #[.int .i64 x, .int .i64 y] 30))
          have hbw2 : Below w1.heap.size w1 (((wr.setCell ⟨w1.heap.size, 0, none⟩ (.int .i64 ((S1 : Int) + x))).setCell ⟨w1.heap.size, 1, none⟩ (.int .i64 ((S2 : Int) + y))).alloc (.cells #[.int .i64 x, .int .i64 y] 30)) := (by repeat (first | exact Below.refl _ _ | assumption | refine bdrewN ?_ _ | refine Below.setCell ?_ (by first | exact Nat.le_refl _ | assumption | omega | (simp <;> omega)) _ | refine Below.alloc ?_ (by first | exact Nat.le_refl _ | assumption | omega | (simp <;> omega)) _))
          have hT2 := Blk.newAt ((wr.setCell ⟨w1.heap.size, 0, none⟩ (.int .i64 ((S1 : Int) + x))).setCell ⟨w1.heap.size, 1, none⟩ (.int .i64 ((S2 : Int) + y))) 30 #[.int .i64 x, .int .i64 y] wr.heap.size (by simp)
          obtain ⟨x1, y1, hxy1⟩ : ∃ x1 y1, cx x y = .complex .f64 x1 y1 := ⟨_, _, by unfold cx; rfl⟩
          have HX1 := Lib.hid hxy1
          clear hxy1
          have HNu : Hid (∀ wc, Calls Tryd.prog 13 #[.agg #[.int .i64 x, .int .i64 y]] wc fun e w' => e = .returned (.complex .f64 x1 y1) ∧ Below wc.heap.size wc w') := Lib.hid (fun wc => by rw [← HX1.out]; exact number_any _ _ wc (by omega) (by omega))
          have x53 : x < 2 ^ 53 := by omega
          have y53 : y < 2 ^ 53 := by omega
          have X53 := Lib.hid x53
          have Y53 := Lib.hid y53
          clear x53 y53
          have hnb : some wr.heap.size ≠ u4.ownBlock := fun e => by
            have := (hown.lt _ e.symm).2
            omega
          have HNB := Lib.hid hnb
          clear hnb
          go_wp2_with fail
          refine calls_at _ (fun w2 hw2 => ?_)
          rw [← hw2] at hB2 ho2 hbw2 hT2
          have ht20 := hT2.cell 0
          have ht21 := hT2.cell 1
          simp only [List.getElem?_toArray, List.getElem?_cons_zero, List.getElem?_cons_succ] at ht20 ht21
          clear hw2 hB b0 b1 f0 f1 hown
          refine (HNu.out _).mono ?_
          rintro e w3 ⟨rfl, hb3⟩
          have ht30 := Below.cell' hb3 ht20
          have ht31 := Below.cell' hb3 ht21
          have ho3 := own_below (own_below ho2 hb3) ((Below.refl _ _).alloc (Nat.le_refl _) (.cells #[.complex .f64 x1 y1] 32))
          have hn3 := Sn.new w3 #[.complex .f64 x1 y1] 32 1 1 rfl
          have hB3 := hB2.keep hb3
          have hbw3 := hbw2.trans (hb3.mono hbw2.size)
          have hs3 := hB3.lt
          clear hB2 ho2 hbw2 ht20 ht21 hT2
          have hba3 : Below w3.heap.size w3 (w3.alloc (.cells #[.complex .f64 x1 y1] 32)) := (by repeat (first | exact Below.refl _ _ | assumption | refine bdrewN ?_ _ | refine Below.setCell ?_ (by first | exact Nat.le_refl _ | assumption | omega | (simp <;> omega)) _ | refine Below.alloc ?_ (by first | exact Nat.le_refl _ | assumption | omega | (simp <;> omega)) _))
          have h30 := Below.cell' hba3 ht30
          have h31 := Below.cell' hba3 ht31
          clear ht30 ht31
          go_wp2_with (at_builtin; refine app tCx (.tmp 58) (.tmp 61) rfl rfl (v := u4) rfl ho3 rfl hn3 (by intro u hu; simp at hu; subst hu; rfl) (by unfold maxLen; omega) (by omega) (by simp; omega) ?_; intro v4 w4 hown4 hg4 _; have h40 := hg4.cell h30 HNB.out; have h41 := hg4.cell h31 HNB.out; have hbg : Below (w1.heap.size + 1) w3 w4 := (hba3.mono (by omega)).grown hg4 (by simp; omega) (fun g hg => (ho3.lt g hg).1); clear h30 h31 hg4 ho3 hn3 hba3)
          have hB4 := hB3.below hbg (Nat.lt_succ_self _)
          have hbw4 : Below w1.heap.size w1 w4 := hbw3.trans (hbg.mono (by omega))
          rw [← HX1.out, ← cxs_snoc, ← HN.out] at hown4
          have hsum := sum_app (nats (l.take k)) x y
          rw [← HN.out, ← HS1.out, ← HS2.out] at hsum
          have hBv : ((#[Value.int .i64 (S1 : Int), Value.int .i64 (S2 : Int)].setIfInBounds 0 (Value.int .i64 ((S1 : Int) + x))).setIfInBounds 1 (Value.int .i64 ((S2 : Int) + y))) = #[.int .i64 (sum1 (nats (l.take (k + 1)))), .int .i64 (sum2 (nats (l.take (k + 1))))] := by
            rw [hsum.1, hsum.2]
            simp
          rw [hBv] at hB4
          have HSp : Hid (∀ wc, Calls Tryd.prog 19 #[.complex .f64 x1 y1] wc fun e w' => e = .returned (.tuple #[.int .i64 x, .int .i64 y]) ∧ wc = w') := Lib.hid (fun wc => by rw [← HX1.out]; exact split_any x y wc X53.out Y53.out)
          have HTx : Hid (∀ wc, Tab wc → Calls Tryd.prog 14 #[.complex .f64 x1 y1] wc fun e w' => e = .returned (.string (textOf x y)) ∧ Below wc.heap.size wc w') := Lib.hid (fun wc h => by rw [← HX1.out]; exact text_any x y wc h X53.out Y53.out)
          have HRt : Hid (∀ wc, Calls Tryd.prog 15 #[.agg #[.int .i64 x, .int .i64 y]] wc fun e w' => e = .returned (.string (textOf x y)) ∧ Below wc.heap.size wc w') := Lib.hid (fun wc => ref_text_any _ _ wc X53.out Y53.out)
          clear hbg hB3 hbw3 hs3 hsum hBv
          refine (HNu.out _).mono ?_
          rintro e w5 ⟨rfl, hb5⟩
          have h50 := Below.cell' hb5 h40
          have h51 := Below.cell' hb5 h41
          go_wp2_with fail
          refine (HSp.out _).mono ?_
          rintro e w6 ⟨rfl, hw6⟩
          subst hw6
          have hb45 := hb5
          have hbw5 := hbw4.trans (hb5.mono hbw4.size)
          have htab : Tab w5 := (ht.below hb1).below hbw5
          have hT : Hid (Tab w5) := Lib.hid htab
          have ho5 := Lib.hid (own_below hown4 hb5)
          have hB5 := Lib.hid (hB4.keep hb5)
          clear hb5 h40 h41 htab hb45 hown4 hB4
          go_wp2_with fail
          go_region_held3 (fun w' => w'.cell? ⟨wr.heap.size, 0, none⟩ = some (.int .i64 x) ∧ w'.cell? ⟨wr.heap.size, 1, none⟩ = some (.int .i64 y) ∧ Below w5.heap.size w5 w')
            (first
              | (refine ⟨by assumption, by assumption, (Below.refl _ _).drew⟩)
              | (go_split_ands; exact ⟨Below.cell' (by assumption) (by assumption), Below.cell' (by assumption) (by assumption), bstep (by assumption) (by assumption)⟩)
              | go_keep)
            ((first
              | (go_at_call 13; refine (HNu.out _).mono ?_; rintro e wN ⟨rfl, hbN⟩)
              | (go_at_call 14; refine (HTx.out _ (hT.out.below (by go_split_ands; assumption))).mono ?_; rintro e wN ⟨rfl, hbN⟩)
              | (go_at_call 15; refine (HRt.out _).mono ?_; rintro e wN ⟨rfl, hbN⟩)))
          all_goals
            go_wp2_with fail
            have hbX : Below w5.heap.size w5 wN := (by go_split_ands; assumption)
            exact ⟨⟨k + 1, by omega, by go_num, hall2, own_below ho5.out hbX, hB5.out.keep hbX, hbw5.trans (hbX.mono hbw5.size)⟩, by simp [intOf]; omega⟩
        · have hbr : Below w.heap.size w wr := hb1.trans (hb.mono hb1s)
          rcases Bool.eq_false_or_eq_true (decide (l[k].1 < (0 : Int))) with t1 | t1
          · go_wp2_with fail
            go_ret
            exact ⟨rfl, (by repeat (first | exact Below.refl _ _ | assumption | refine bdrewN ?_ _ | refine Below.setCell ?_ (by first | exact Nat.le_refl _ | assumption | omega | (simp <;> omega)) _ | refine Below.alloc ?_ (by first | exact Nat.le_refl _ | assumption | omega | (simp <;> omega)) _))⟩
          rcases Bool.eq_false_or_eq_true (decide (l[k].2 < (0 : Int))) with t2 | t2
          · go_wp2_with fail
            go_ret
            exact ⟨rfl, (by repeat (first | exact Below.refl _ _ | assumption | refine bdrewN ?_ _ | refine Below.setCell ?_ (by first | exact Nat.le_refl _ | assumption | omega | (simp <;> omega)) _ | refine Below.alloc ?_ (by first | exact Nat.le_refl _ | assumption | omega | (simp <;> omega)) _))⟩
          rcases Bool.eq_false_or_eq_true (decide ((1099511627776 : Int) < l[k].1)) with t3 | t3
          · go_wp2_with fail
            go_ret
            exact ⟨rfl, (by repeat (first | exact Below.refl _ _ | assumption | refine bdrewN ?_ _ | refine Below.setCell ?_ (by first | exact Nat.le_refl _ | assumption | omega | (simp <;> omega)) _ | refine Below.alloc ?_ (by first | exact Nat.le_refl _ | assumption | omega | (simp <;> omega)) _))⟩
          rcases Bool.eq_false_or_eq_true (decide ((1099511627776 : Int) < l[k].2)) with t4 | t4
          · go_wp2_with fail
            go_ret
            exact ⟨rfl, (by repeat (first | exact Below.refl _ _ | assumption | refine bdrewN ?_ _ | refine Below.setCell ?_ (by first | exact Nat.le_refl _ | assumption | omega | (simp <;> omega)) _ | refine Below.alloc ?_ (by first | exact Nat.le_refl _ | assumption | omega | (simp <;> omega)) _))⟩
          exact absurd (show InR l[k] from ⟨by have := of_decide_eq_false t1; omega, by have := of_decide_eq_false t2; omega, by have := of_decide_eq_false t3; omega, by have := of_decide_eq_false t4; omega⟩) hin
      · obtain rfl : k = l.length := by omega
        rw [List.take_length] at hB hown hall
        have b0 := hB.cell 0
        have b1 := hB.cell 1
        simp only [List.getElem?_toArray, List.getElem?_cons_zero, List.getElem?_cons_succ] at b0 b1
        have hle := sum_nats_le l hall.out
        have hle2 : 1099511627776 * l.length ≤ 1099511627776 * 100 := Nat.mul_le_mul_left _ hl
        have q1 : sum1 (nats l) < 2 ^ 53 := by omega
        have q2 : sum2 (nats l) < 2 ^ 53 := by omega
        have Q1 := Lib.hid q1
        have Q2 := Lib.hid q2
        have hlen : (nats l).length = l.length := by unfold nats; simp
        have HLEN := Lib.hid hlen
        have hsl := (Sn.own hown).sl
        have hbr : Below w.heap.size w wr := hb1.trans (hb.mono hb1s)
        clear q1 q2 hle hle2 hlen
        have HSu : Hid (∀ wc, Below wr.heap.size wr wc → Calls Tryd.prog 18 #[u4] wc fun e w' => e = .returned (cx (sum1 (nats l)) (sum2 (nats l))) ∧ Below wc.heap.size wc w') := Lib.hid (fun wc h => (sum_any u4 (nats l) wc (hsl.below h) Q1.out Q2.out (by rw [HLEN.out]; omega)).mono fun _ _ h => ⟨h.1, by rw [← h.2]; exact Below.refl _ _⟩)
        have HNu : Hid (∀ wc, Calls Tryd.prog 13 #[.agg #[.int .i64 (sum1 (nats l)), .int .i64 (sum2 (nats l))]] wc fun e w' => e = .returned (cx (sum1 (nats l)) (sum2 (nats l))) ∧ Below wc.heap.size wc w') := Lib.hid (fun wc => number_any _ _ wc Q1.out Q2.out)
        have hE := run_cEq 32 (sum1 (nats l)) (sum2 (nats l)) Q1.out Q2.out
        have hG := fun p q => run_cGuard 32 p q (sum1 (nats l)) (sum2 (nats l))
        clear hown hsl hB hs1
        go_wp2_with fail
        go_region_held3 (fun w' => w'.cell? ⟨w1.heap.size, 0, none⟩ = some (.int .i64 (sum1 (nats l))) ∧ w'.cell? ⟨w1.heap.size, 1, none⟩ = some (.int .i64 (sum2 (nats l))) ∧ Below wr.heap.size wr w')
          (first
            | (refine ⟨by assumption, by assumption, (Below.refl _ _).drew⟩)
            | (go_split_ands; exact ⟨Below.cell' (by assumption) (by assumption), Below.cell' (by assumption) (by assumption), bstep (by assumption) (by assumption)⟩)
            | go_keep)
          ((first
            | (go_at_call 18; refine (HSu.out _ (by go_split_ands; assumption)).mono ?_; rintro e wN ⟨rfl, hbN⟩)
            | (go_at_call 13; refine (HNu.out _).mono ?_; rintro e wN ⟨rfl, hbN⟩)))
        all_goals
          go_wp2_with fail
          go_ret
          exact ⟨rfl, bstep hbr (by go_split_ands; assumption)⟩
end Go.Proofs.YtdidohfdedkfaaaDoor
