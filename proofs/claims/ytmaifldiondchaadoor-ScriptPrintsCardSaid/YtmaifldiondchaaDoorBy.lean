/- Bytes, digests, entries: what lies in cells. No program is named here. -/
import Derived.Test.YtmaifldiondchaaDoorMem
import Derived.Deep.MidRow
import Derived.Laws.Slices
namespace Go.Proofs.YtmaifldiondchaaDoor
open Go.RowKit

def u8s (l : List Int) : List Value := l.map (Value.int .u8)
structure DigOk (d : List Int) : Prop where
  len : d.length = 32
  byte : ∀ b ∈ d, 0 ≤ b ∧ b ≤ 255
def isI64 (n : Int) : Prop := -9223372036854775808 ≤ n ∧ n ≤ 9223372036854775807
theorem isI64_of {n : Int} (h : (Lit.int .i64 n).wf = true) : isI64 n := by
  simp [Lit.wf, IntKind.min, IntKind.max, IntKind.signed, IntKind.bits] at h
  unfold isI64
  omega
theorem wf_i64 {n : Int} (h : isI64 n) : (Lit.int .i64 n).wf = true := by
  unfold isI64 at h
  simp [Lit.wf, IntKind.min, IntKind.max, IntKind.signed, IntKind.bits]
  omega
def entC (d : List Int) (t : Int) : List Value := u8s d ++ [.int .i64 t]
theorem entC_length {d : List Int} (h : DigOk d) (t : Int) : (entC d t).length = 33 := by simp [entC, u8s, h.len]
theorem entC_one (d : List Int) (t : Int) : (entC d t).toArray.all (·.oneCell') = true := by
  refine all_oneCell_toArray fun v hv => ?_
  simp [entC, u8s] at hv
  rcases hv with ⟨_, _, rfl⟩ | rfl <;> rfl
theorem u8s_one (d : List Int) : (u8s d).toArray.all (·.oneCell') = true := by
  refine all_oneCell_toArray fun v hv => ?_
  simp [u8s] at hv
  obtain ⟨_, _, rfl⟩ := hv
  rfl
def entP (p : List Int × Int) : List Value := entC p.1 p.2
structure EntOk (p : List Int × Int) : Prop where
  dig : DigOk p.1
  exp : isI64 p.2
theorem entP_length (p : List Int × Int) (h : EntOk p) : (entP p).length = 33 := entC_length h.dig _
def Bys (l : List Int) : Prop := ∀ b ∈ l, 0 ≤ b ∧ b ≤ 255
theorem u8s_length (l : List Int) : (u8s l).length = l.length := by simp [u8s]
theorem u8s_mem (l : List Int) : ∀ u ∈ u8s l, u.oneCell' = true := fun u hu => by
  simp only [u8s, List.mem_map] at hu
  obtain ⟨_, _, rfl⟩ := hu
  rfl
theorem u8s_append (a b : List Int) : u8s (a ++ b) = u8s a ++ u8s b := by simp [u8s]
theorem u8s_take (a : List Int) (k : Nat) : u8s (a.take k) = (u8s a).take k := by simp [u8s, List.map_take]
theorem u8s_drop (a : List Int) (k : Nat) : u8s (a.drop k) = (u8s a).drop k := by simp [u8s, List.map_drop]
theorem u8s_get (a : List Int) (k : Nat) (h : k < a.length) : (u8s a)[k]? = some (.int .u8 a[k]) := by simp [u8s, h]
/-- The part of a slice between two places. -/
theorem Sn.sliced {w : World} {s n : Nat} {A : Option Addr} {cap : Nat} {xs : List Value} (h : Sn w s (.slice A n cap) n xs) (i j m : Nat) (hij : i ≤ j) (hj : j ≤ n) (hm : j ≤ m) : Sn w s (sliced A i j m s) (j - i) ((xs.take (j * s)).drop (i * s)) := by
  obtain ⟨A', cap', hv, hcap, hl, hx⟩ := h
  injection hv with hA _ _
  subst hA
  have hjs : j * s ≤ n * s := Nat.mul_le_mul_right s hj
  have hlen : ((xs.take (j * s)).drop (i * s)).length = (j - i) * s := by rw [List.length_drop, List.length_take, Nat.sub_mul]; omega
  unfold Go.sliced
  refine ⟨_, _, rfl, by omega, hlen, fun hp => ?_⟩
  obtain ⟨b, off, rfl, hcell⟩ := hx (by omega)
  rw [if_neg (by omega)]
  refine ⟨b, off + i * s, by simp [Addr.add_mid], fun k u hk => ?_⟩
  rw [List.getElem?_drop, List.getElem?_take] at hk
  split at hk
  · have := hcell _ _ hk
    rw [← Nat.add_assoc] at this
    exact this
  · cases hk
end Go.Proofs.YtmaifldiondchaaDoor
