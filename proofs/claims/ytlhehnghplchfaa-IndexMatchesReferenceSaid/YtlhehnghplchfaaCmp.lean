/- The order of entries: cmp.Compare, bytes.Compare, index.Compare. -/
import Derived.Test.YtlhehnghplchfaaIdx
import Derived.Lib.Bytealg
import Derived.Lib.BytesEntry
namespace Go.Proofs.Ytlhehnghplchfaa
open Go.RowKit

def cmpI (x y : Int) : Int := if x < y then -1 else if y < x then 1 else 0
def cmpD : List Int → List Int → Int
  | [], [] => 0
  | [], _ :: _ => -1
  | _ :: _, [] => 1
  | a :: xs, b :: ys => if a < b then -1 else if b < a then 1 else cmpD xs ys
def cmpE (p q : List Int × Int) : Int := if cmpI p.2 q.2 ≠ 0 then cmpI p.2 q.2 else cmpD p.1 q.1
theorem byte_lt {a b : Int} (ha : 0 ≤ a ∧ a ≤ 255) (hb : 0 ≤ b ∧ b ≤ 255) : a.toNat.toUInt8 < b.toNat.toUInt8 ↔ a < b := by
  rw [UInt8.lt_iff_toNat_lt]
  simp only [Nat.toUInt8_eq, UInt8.toNat_ofNat']
  omega
theorem compareBytes_cmpD : ∀ (x y : List Int), (∀ b ∈ x, 0 ≤ b ∧ b ≤ 255) → (∀ b ∈ y, 0 ≤ b ∧ b ≤ 255) → Lib.compareBytes (Lib.bytesOf x) (Lib.bytesOf y) = cmpD x y
  | [], [], _, _ => rfl
  | [], _ :: _, _, _ => rfl
  | _ :: _, [], _, _ => rfl
  | a :: xs, b :: ys, hx, hy => by
    have ih := compareBytes_cmpD xs ys (fun c hc => hx c (by simp [hc])) (fun c hc => hy c (by simp [hc]))
    have ha := hx a (by simp)
    have hb := hy b (by simp)
    show (if a.toNat.toUInt8 < b.toNat.toUInt8 then (-1 : Int) else if b.toNat.toUInt8 < a.toNat.toUInt8 then 1 else Lib.compareBytes (Lib.bytesOf xs) (Lib.bytesOf ys)) = if a < b then -1 else if b < a then 1 else cmpD xs ys
    simp only [byte_lt ha hb, byte_lt hb ha, ih]

theorem run_cmp (g g' : Nat) (c c' : Nat) (x y : List Int) (w : World) (hx : DigOk x) (hy : DigOk y) (h : w.rangeAt g 0 (u8s x)) (h' : w.rangeAt g' 0 (u8s y)) :
    (Extern.BytealgCompare.compare #[.slice (some ⟨g, 0, none⟩) 32 c, .slice (some ⟨g', 0, none⟩) 32 c']).run Try.prog w = .ok (.int .i64 (cmpD x y)) w := by
  have key : ∀ (g c : Nat) (x : List Int), DigOk x → w.rangeAt g 0 (u8s x) → (Extern.Bytes.bytesOf (.slice (some ⟨g, 0, none⟩) 32 c)).run Try.prog w = .ok ⟨(Lib.bytesOf x).toArray⟩ w := by
    intro g c x hx h
    show (Extern.Bytes.loadBytes ⟨g, 0, none⟩ 32 .empty).run Try.prog w = _
    have := Lib.run_loadBytesX (P := Try.prog) (w := w) x ⟨g, 0, none⟩ .empty (fun j u hj => by
      have h1 := h j (.int .u8 u) (by simp [u8s, hj])
      by_cases hj0 : j = 0
      · subst hj0; simpa [Addr.add] using h1
      · simpa [Addr.add, hj0] using h1)
    rw [hx.len] at this
    rw [this]
    simp
  change Sem.run Try.prog (do pure (goInt (Extern.BytealgCompare.cmp (← Extern.Bytes.bytesOf (.slice (some ⟨g, 0, none⟩) 32 c)) (← Extern.Bytes.bytesOf (.slice (some ⟨g', 0, none⟩) 32 c'))))) w = _
  simp only [Sem.run_bind, Sem.run_pure, key g c x hx h, key g' c' y hy h', Result.andThen]
  rw [Lib.cmp_eq]
  show Result.ok (Value.int .i64 (Lib.compareBytes (Lib.bytesOf x).toArray.toList (Lib.bytesOf y).toArray.toList)) w = _
  rw [List.toList_toArray, List.toList_toArray, compareBytes_cmpD x y hx.byte hy.byte]

theorem bytes_Compare (g g' : Nat) (c c' : Nat) (x y : List Int) (w : World) (hx : DigOk x) (hy : DigOk y) (h : w.rangeAt g 0 (u8s x)) (h' : w.rangeAt g' 0 (u8s y)) :
    Calls Try.prog 27 #[.slice (some ⟨g, 0, none⟩) 32 c, .slice (some ⟨g', 0, none⟩) 32 c'] w fun e w' => e = .returned (.int .i64 (cmpD x y)) ∧ w' = w := by
  go_enter Try.func27, Try.ntmps27
  go_wp2
  rw [run_callFunc_extern Try.func32 (by kernel_rfl) (by kernel_rfl) (by kernel_rfl) (e := Extern.BytealgCompare.compare) (by kernel_rfl)]
  rw [run_cmp g g' c c' x y w hx hy h h']
  simp only [Result.andThen]
  rw [Oper.upon_value]
  go_wp2
  go_ret
  exact ⟨rfl, rfl⟩

theorem isNaN_any (x : Int) (w : World) : Calls Try.prog 31 #[.int .i64 x] w fun e w' => e = .returned (.bool false) ∧ w' = w := by
  go_enter Try.func31, Try.ntmps31
  go_wp2_with fail
  go_ret
  exact ⟨rfl, rfl⟩
theorem cmp_Compare (x y : Int) (w : World) :
    Calls Try.prog 26 #[.int .i64 x, .int .i64 y] w fun e w' => e = .returned (.int .i64 (cmpI x y)) ∧ w' = w := by
  rcases Bool.eq_false_or_eq_true (decide (x < y)) with t1 | t1 <;> rcases Bool.eq_false_or_eq_true (decide (y < x)) with t2 | t2
  all_goals
    go_enter Try.func26, Try.ntmps26
    go_wp2_with fail
    refine (isNaN_any x w).mono ?_
    rintro e w1 ⟨rfl, rfl⟩
    go_wp2_with fail
    refine (isNaN_any y _).mono ?_
    rintro e w1 ⟨rfl, rfl⟩
    go_wp2_with fail
    go_ret
    have u1 := t1
    have u2 := t2
    simp only [decide_eq_true_eq, decide_eq_false_iff_not] at u1 u2
    refine ⟨?_, rfl⟩
    unfold cmpI
    simp [u1, u2]
end Go.Proofs.Ytlhehnghplchfaa
