/- What a composite of a digest and an expiry holds. -/
import Derived.Test.YtlhehnghplchfaaIdx
namespace Go.Proofs.Ytlhehnghplchfaa
theorem set_many (l : List Value) : ∀ (k : Nat) (cs : Array Value) (i : Nat), ((l.zipIdx k).foldl (fun (cs : Array Value) (x : Value × Nat) => cs.setIfInBounds x.2 x.1) cs)[i]? = if k ≤ i ∧ i < k + l.length ∧ i < cs.size then l[i - k]? else cs[i]? := by
  induction l with
  | nil => intro k cs i; rw [if_neg (by simp; omega)]; rfl
  | cons v l ih =>
    intro k cs i
    rw [List.zipIdx_cons, List.foldl_cons, ih]
    simp only [Array.size_setIfInBounds, List.length_cons]
    by_cases h1 : k + 1 ≤ i ∧ i < k + 1 + l.length ∧ i < cs.size
    · rw [if_pos h1, if_pos (by omega), show i - k = (i - (k + 1)) + 1 by omega, List.getElem?_cons_succ]
    · rw [if_neg h1, Array.getElem?_setIfInBounds]
      by_cases h2 : k = i
      · subst h2
        by_cases h3 : k < cs.size
        · rw [if_pos rfl, if_pos h3, if_pos (by omega)]; simp
        · rw [if_pos rfl, if_neg h3, if_neg (by omega)]
          simp [Array.getElem?_eq_none (Nat.le_of_not_lt h3)]
      · rw [if_neg h2, if_neg (by omega)]
theorem build_size : ∀ (l : List (Value × Nat)) (cs : Array Value), (l.foldl (fun (cs : Array Value) (x : Value × Nat) => cs.setIfInBounds x.2 x.1) cs).size = cs.size := by
  intro l
  induction l with
  | nil => intro cs; rfl
  | cons x l ih => intro cs; rw [List.foldl_cons, ih, Array.size_setIfInBounds]
theorem build_ent (d : List Int) (t : Int) (hd : d.length = 32) (Z : Array Value) (hz : Z.size = 33) : ((u8s d).zipIdx.foldl (fun (cs : Array Value) (x : Value × Nat) => cs.setIfInBounds x.2 x.1) Z).setIfInBounds 32 (.int .i64 t) = (entC d t).toArray := by
  have h32 : (u8s d).length = 32 := by simp [u8s, hd]
  have hsz : ((u8s d).zipIdx.foldl (fun (cs : Array Value) (x : Value × Nat) => cs.setIfInBounds x.2 x.1) Z).size = 33 := by
    have key : ∀ (l : List (Value × Nat)) (cs : Array Value), (l.foldl (fun (cs : Array Value) (x : Value × Nat) => cs.setIfInBounds x.2 x.1) cs).size = cs.size := by
      intro l
      induction l with
      | nil => intro cs; rfl
      | cons x l ih => intro cs; rw [List.foldl_cons, ih, Array.size_setIfInBounds]
    rw [key]; exact hz
  apply Array.ext_getElem?
  intro i
  rw [Array.getElem?_setIfInBounds, set_many, hsz, hz, h32, show (entC d t).toArray[i]? = (u8s d ++ [.int .i64 t])[i]? by simp [entC]]
  by_cases h1 : 32 = i
  · subst h1
    rw [if_pos rfl, if_pos (by omega), List.getElem?_append_right (by omega), h32]
    rfl
  · rw [if_neg h1]
    by_cases h2 : i < 32
    · rw [if_pos (by omega), List.getElem?_append_left (by omega), Nat.sub_zero]
    · rw [if_neg (by omega), List.getElem?_append_right (by omega), h32]
      rw [Array.getElem?_eq_none (by rw [hz]; omega), List.getElem?_eq_none (by simp; omega)]
theorem build_one (d : List Int) (t : Int) (hd : DigOk d) (Z : Array Value) (hz : Z.size = 33) : (entC d t).zipIdx.foldl (fun (cs : Array Value) (x : Value × Nat) => cs.setIfInBounds x.2 x.1) Z = (entC d t).toArray := by
  have hl := entC_length hd t
  apply Array.ext_getElem?
  intro i
  rw [set_many, hz, hl, show (entC d t).toArray[i]? = (entC d t)[i]? by simp]
  by_cases h : i < 33
  · rw [if_pos (by omega), Nat.sub_zero]
  · rw [if_neg (by omega), Array.getElem?_eq_none (by omega), List.getElem?_eq_none (by omega)]
end Go.Proofs.Ytlhehnghplchfaa
