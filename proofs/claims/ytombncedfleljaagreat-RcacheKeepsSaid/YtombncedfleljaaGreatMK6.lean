/- Parts: slices.SortFunc at entries, by index.Compare. -/
import Derived.Test.YtombncedfleljaaGreatMK3
import Derived.Test.YtombncedfleljaaGreatMK2
import Derived.Test.YtombncedfleljaaGreatMK5
import Derived.Shelf.SlSortCmp.NoneTotal
namespace Go.Proofs.YtombncedfleljaaGreat
set_option maxRecDepth 100000
open Go.RowKit Go.Shelf Go.Lib Go.Sort

def Ent : Type := { p : List Int × Int // EntOk p }
instance : Inhabited Ent := ⟨⟨(List.replicate 32 0, 0), ⟨by simp, fun b hb => by have := (List.mem_replicate.1 hb).2; omega⟩, by constructor <;> decide⟩⟩
def encE (x : Ent) : List Value := entP x.1
def cfE (x y : Ent) : Int := cmpE x.1 y.1
theorem ltE (x y : Ent) : ltOf cfE x y = decide (cmpE x.1 y.1 < 0) := rfl
theorem swoE : SWO (ltOf cfE) where
  irrefl x := by
    rw [ltE, (cmpE_zero x.1 x.1).2 rfl]
    rfl
  trans x y z h1 h2 := by
    rw [ltE, decide_eq_true_eq] at *
    have h3 := cmpE_trans x.1 y.1 z.1 (by omega) (by omega)
    have hne : cmpE x.1 z.1 ≠ 0 := fun e => by
      have e' := (cmpE_zero _ _).1 e
      rw [e'] at h1
      have := cmpE_neg y.1 z.1
      omega
    omega
  ntrans x y z h1 h2 := by
    rw [ltE, decide_eq_false_iff_not] at *
    have n1 := cmpE_neg x.1 y.1
    have n2 := cmpE_neg y.1 z.1
    have n3 := cmpE_neg x.1 z.1
    have h3 := cmpE_trans z.1 y.1 x.1 (by omega) (by omega)
    omega
theorem totE (x y : Ent) (h1 : ltOf cfE x y = false) (h2 : ltOf cfE y x = false) : x = y := by
  rw [ltE, decide_eq_false_iff_not] at *
  have n1 := cmpE_neg x.1 y.1
  exact Subtype.ext ((cmpE_zero _ _).1 (by omega))
theorem get_flat {α : Type} (C : α → List Value) (s : Nat) (hlen : ∀ r, (C r).length = s) (l : List α) (k j : Nat) (hk : k < l.length) (hj : j < s) : (l.flatMap C)[k * s + j]? = (C l[k])[j]? := by
  have e : l.flatMap C = (l.take k).flatMap C ++ (C l[k] ++ (l.drop (k + 1)).flatMap C) := by
    conv => lhs; rw [← List.take_append_drop k l, List.drop_eq_getElem_cons hk]
    rw [List.flatMap_append, List.flatMap_cons]
  have h1 : ((l.take k).flatMap C).length = k * s := by
    have key : ∀ m : List α, (m.flatMap C).length = m.length * s := by
      intro m
      induction m with
      | nil => simp
      | cons r m ih => simp [List.flatMap_cons, hlen r, ih, Nat.add_mul]; omega
    rw [key, List.length_take, Nat.min_eq_left (by omega)]
  rw [e, List.getElem?_append_right (by omega), h1, Nat.add_sub_cancel_left, List.getElem?_append_left (by rw [hlen]; exact hj)]
theorem encE_length (x : Ent) : (encE x).length = 33 := entP_length x.1 x.2
theorem flatK_get (d : Array Ent) (t : Nat) (h : t < d.size * 33) : (d.toList.flatMap encE)[t]? = some (flatK encE 33 d)[t]! := by
  rw [get_flatK encE 33 d t h]
  have h1 : t / 33 < d.toList.length := by rw [Array.length_toList]; omega
  have h2 : t % 33 < 33 := Nat.mod_lt _ (by omega)
  have h3 := get_flat encE 33 encE_length d.toList (t / 33) (t % 33) h1 h2
  rw [show t / 33 * 33 + t % 33 = t by omega] at h3
  rw [h3]
  have h4 : d[t / 33]! = d.toList[t / 33] := by
    rw [getElem!_pos d (t / 33) (by simpa using h1)]
    simp
  rw [h4]
  have h5 : t % 33 < (encE d.toList[t / 33]).length := by rw [encE_length]; exact h2
  rw [List.getElem?_eq_getElem h5, getElem!_pos (encE d.toList[t / 33]) (t % 33) h5]
theorem below_sort (w : World) (g n : Nat) (d : Array Ent) (os : Array Obj) (B : Nat) (hB : B ≤ g) (hs : B ≤ w.heap.size) : Below B w (sortWorldK encE 33 w g 0 n d os) := by
  refine ⟨rfl, rfl, rfl, ?_, fun k hk => ?_⟩
  · exact size_sortWorldK_c encE 33 w g 0 n d os
  · show ((mapBlock (Sort.ahead w n) g _).heap ++ os)[k]? = _
    have hsz : (mapBlock (Sort.ahead w n) g (putCells id 0 (flatK encE 33 d))).heap.size = w.heap.size := by simp [mapBlock, Sort.ahead]
    rw [Array.getElem?_append_left (by rw [hsz]; omega)]
    simp only [mapBlock, Sort.ahead, Array.getElem?_modify]
    rw [if_neg (by omega)]
theorem aggE : ∀ w, (isAgg (Tryz.sortEnt_ren.t 24)).run Tryz.prog w = .ok true w := fun w => by kernel_rfl
theorem sizeE : ∀ w, (Go.sizeOf (Tryz.sortEnt_ren.t 24)).run Tryz.prog w = .ok 33 w := fun w => by kernel_rfl
theorem cmpLaysE (g : Nat) (size : Nat) (w : World) : CmpLays Tryz.prog 60 #[] encE 33 cfE g 0 size w :=
  fun _ _ _ _ x y => compare_grow x.1 y.1 _ x.2 y.2

/-- What SortFunc does to a slice of the call's own. -/
theorem sort_any (base n : Nat) (v : Value) (M : List (List Int × Int)) (w : World) (hn : n = M.length) (hown : w.ownsRow base 35 33 v n (M.flatMap entP)) (hok : ∀ p ∈ M, EntOk p) (hl : M.length ≤ 1000) (hbw : base ≤ w.heap.size) :
    Calls Tryz.prog 59 #[v, .func (.func 60) #[] #[]] w fun e w' => e = .returned (.tuple #[]) ∧ ∃ L : List (List Int × Int), L.Perm M ∧ L.Pairwise (fun p q => cmpE p q ≤ 0) ∧ Sn w' 33 v L.length (L.flatMap entP) ∧ Below base w w' := by
  subst hn
  obtain ⟨hlen, h | ⟨g, cap, cur, rfl, hb, hh, hc1, hm, hcs, htk⟩⟩ := hown
  · obtain ⟨rfl, h0⟩ := h
    have hM : M = [] := List.eq_nil_of_length_eq_zero h0
    subst hM
    have hcon := AnyF.slices_SortFunc_none Tryz.sortEnt none 0 (.func (.func 60) #[] #[]) w
    change Calls Tryz.prog 59 _ _ _ at hcon
    refine hcon.mono ?_
    rintro e w' ⟨rfl, rfl⟩
    exact ⟨rfl, [], List.Perm.refl _, List.Pairwise.nil, ⟨none, 0, rfl, Nat.le_refl _, rfl, fun h => absurd h (by simp)⟩, Below.refl _ _⟩
  · obtain ⟨d, hd⟩ : ∃ d : Array Ent, d.toList.map (·.1) = M := ⟨(M.attach.map fun p => (⟨p.1, hok p.1 p.2⟩ : Ent)).toArray, by
      rw [List.toList_toArray]
      exact List.map_map.trans (List.attach_map_subtype_val M)⟩
    have hsize : d.size = M.length := by rw [← hd]; simp
    have hfl : d.toList.flatMap encE = M.flatMap entP := by rw [← hd, List.flatMap_map]; rfl
    have hH : HoldsK encE 33 w g 0 d := by
      intro j hj
      rw [size_flatK] at hj
      have hg := flatK_get d j hj
      rw [hfl] at hg
      refine ⟨?_, frozen_of_row w g (0 + j) cur _ hh⟩
      rw [cell_of_row w g (0 + j) cur _ (0, 0) hh, Nat.zero_add]
      rw [← htk, List.getElem?_take] at hg
      split at hg
      · simpa using hg
      · cases hg
    have hgl : g < w.heap.size := by
      rcases Nat.lt_or_ge g w.heap.size with h' | h'
      · exact h'
      · rw [Array.getElem?_eq_none h'] at hh; cases hh
    have eg : ∀ args w, (callFunc 60 args).run Tryz.prog w = .ok (.enter 60 args) w := enters_of Tryz.func60 (by kernel_rfl) rfl
    have hcon := AnyQ.slices_SortFunc_total Tryz.sortEnt 33 aggE sizeE encE encE_length (fun x u hu => by
      have := entC_one x.1.1 x.1.2
      simp only [List.all_toArray, List.all_eq_true] at this
      exact this u hu) cfE swoE 60 #[] g 0 cap d w eg (cmpLaysE g d.size w) hH hgl (by omega) totE
    change Calls Tryz.prog 59 _ _ _ at hcon
    rw [hsize] at hcon
    refine hcon.mono ?_
    rintro e w' ⟨rfl, m, os, rfl⟩
    obtain ⟨d', hd'⟩ : ∃ d' : Array Ent, d' = (d.toList.mergeSort fun x y => !(ltOf cfE) y x).toArray := ⟨_, rfl⟩
    rw [← hd']
    have hperm : d'.toList.Perm d.toList := by rw [hd']; simpa using List.mergeSort_perm d.toList _
    have hsz' : d'.size = d.size := by rw [← Array.length_toList, hperm.length_eq, Array.length_toList]
    have hsorted : d'.toList.Pairwise (fun x y => cmpE x.1 y.1 ≤ 0) := by
      rw [hd', List.toList_toArray]
      have h1 := List.pairwise_mergeSort (le := fun x y : Ent => !(ltOf cfE) y x) (fun x y z h1 h2 => by
        simp only [ltE, Bool.not_eq_true', decide_eq_false_iff_not] at *
        have n1 := cmpE_neg x.1 y.1
        have n2 := cmpE_neg y.1 z.1
        have n3 := cmpE_neg x.1 z.1
        have := cmpE_trans x.1 y.1 z.1 (by omega) (by omega)
        omega) (fun x y => by
        simp only [ltE, Bool.or_eq_true, Bool.not_eq_true', decide_eq_false_iff_not]
        have n1 := cmpE_neg x.1 y.1
        omega) d.toList
      refine h1.imp fun {x y} h => ?_
      simp only [ltE, Bool.not_eq_true', decide_eq_false_iff_not] at h
      have n1 := cmpE_neg x.1 y.1
      omega
    have hH' := holdsK_sortWorldK_c encE 33 w g 0 d d' m os hH hgl hsz'
    refine ⟨rfl, d'.toList.map (·.1), by rw [← hd]; exact hperm.map _, ?_, ?_, below_sort w g m d' os base hb hbw⟩
    · rw [List.pairwise_map]; exact hsorted
    · have hl2 : (d'.toList.map (·.1)).length = M.length := by rw [List.length_map, Array.length_toList, hsz', hsize]
      rw [hl2]
      have hfl' : (d'.toList.map (·.1)).flatMap entP = d'.toList.flatMap encE := by rw [List.flatMap_map]; rfl
      have hlf : ((d'.toList.map (·.1)).flatMap entP).length = M.length * 33 := by
        rw [hfl', (hperm.flatMap_right encE).length_eq, hfl]; exact hlen
      refine ⟨_, cap, rfl, hc1, hlf, fun _ => ⟨g, 0, rfl, fun j u hj => ?_⟩⟩
      have hjl : j < d'.size * 33 := by
        have := (List.getElem?_eq_some_iff.1 hj).1
        rw [hlf] at this
        rw [hsz', hsize]; exact this
      rw [hfl', flatK_get d' j hjl] at hj
      have h1 := (hH' j (by rw [size_flatK]; exact hjl)).1
      rw [h1]; exact hj
end Go.Proofs.YtombncedfleljaaGreat
