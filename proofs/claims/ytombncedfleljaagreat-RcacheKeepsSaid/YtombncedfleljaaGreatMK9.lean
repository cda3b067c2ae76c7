/- Parts: sector.Make. | crc: one step, eight, a run of bytes, the sum of parts. -/
import Derived.Test.YtombncedfleljaaGreatMK8
import Derived.Laws.BitsAllLaws
namespace Go.Proofs.YtombncedfleljaaGreat
open Go.RowKit
set_option linter.unusedSimpArgs false

def z64 : Array Value := (u8s (List.replicate 64 0)).toArray
def pad (l : List Int) : List Int := l ++ List.replicate (64 - l.length) 0
theorem pad_length (l : List Int) (h : l.length ≤ 64) : (pad l).length = 64 := by simp [pad]; omega
theorem pad_bys {l : List Int} (h : Bys l) : Bys (pad l) := fun b hb => by
  unfold pad at hb
  rcases List.mem_append.1 hb with hb | hb
  · exact h b hb
  · have := (List.mem_replicate.1 hb).2; omega
theorem z64_size : z64.size = 64 := by simp [z64, u8s]
/-- Bytes copied into an array of zeros. -/
theorem put_many (cs : Array Value) (n : Nat) (hc : cs.size = n) (xs : List Value) (off : Nat) (h : off + xs.length ≤ n) (i : Nat) : ((xs.zipIdx off).foldl (fun (cs : Array Value) (x : Value × Nat) => cs.setIfInBounds x.2 x.1) cs)[i]? = if off ≤ i ∧ i < off + xs.length then xs[i - off]? else cs[i]? := by
  rw [set_many, hc]
  by_cases h1 : off ≤ i ∧ i < off + xs.length
  · rw [if_pos ⟨h1.1, h1.2, by omega⟩, if_pos h1]
  · rw [if_neg (fun h2 => h1 ⟨h2.1, h2.2.1⟩), if_neg h1]
theorem pad_put (l : List Int) (h : l.length ≤ 64) : ((u8s l).zipIdx 0).foldl (fun (cs : Array Value) (x : Value × Nat) => cs.setIfInBounds x.2 x.1) z64 = (u8s (pad l)).toArray := by
  apply Array.ext_getElem?
  intro i
  rw [put_many z64 64 z64_size (u8s l) 0 (by rw [u8s_length]; omega), u8s_length, show (u8s (pad l)).toArray[i]? = (u8s (pad l))[i]? by simp]
  unfold pad
  rw [u8s_append]
  by_cases h1 : i < l.length
  · rw [if_pos ⟨Nat.zero_le _, by omega⟩, List.getElem?_append_left (by rw [u8s_length]; exact h1), Nat.sub_zero]
  · rw [if_neg (by omega), List.getElem?_append_right (by rw [u8s_length]; omega), u8s_length]
    unfold z64
    simp only [u8s, List.map_replicate, List.getElem?_toArray, List.getElem?_replicate]
    by_cases h2 : i < 64
    · rw [if_pos h2, if_pos (by omega)]
    · rw [if_neg h2, if_neg (by omega)]
attribute [irreducible] z64 pad

theorem zero64 : ∀ w, (zeroValue 144).run Tryz.prog w = .ok (.agg z64) w := fun w => by unfold z64; kernel_rfl

set_option maxRecDepth 100000 in
set_option maxHeartbeats 1000000 in
theorem sector_make (vb : Value) (l : List Int) (w : World) (hs : Sn w 1 vb l.length (u8s l)) (hl : l.length ≤ 64) :
    Calls Tryz.prog 132 #[vb] w fun e w' => e = .returned (.tuple #[.agg (u8s (pad l)).toArray, .bool true]) ∧ Below w.heap.size w w' := by
  obtain ⟨A, cap, rfl, hcap, _, _⟩ := id hs
  have HS := Lib.hid hs
  have hl64 : ¬ (64 : Int) < l.length := by omega
  have hpl := pad_length l hl
  have hup : (u8s (pad l)).length = 64 := by rw [u8s_length, hpl]
  have hu1 := u8s_mem l
  clear hs
  obtain ⟨w1, hw1⟩ : ∃ w1, w1 = (w.alloc (.cells z64 144)).alloc (.cells z64 144) := ⟨_, rfl⟩
  have hB1 : Blk w1 w.heap.size 144 z64 := by rw [hw1]; exact (Blk.new w _ _).alloc _
  have hB2 : Blk w1 (w.heap.size + 1) 144 z64 := by rw [hw1]; exact Blk.newAt _ _ _ _ (by simp)
  have hb1 : Below w.heap.size w w1 := by rw [hw1]; exact (by repeat (first | exact Below.refl _ _ | assumption | refine bdrewN ?_ _ | refine Below.setCell ?_ (by first | exact Nat.le_refl _ | assumption | omega | (simp <;> omega)) _ | refine Below.alloc ?_ (by first | exact Nat.le_refl _ | assumption | omega | (simp <;> omega)) _))
  have hs1 : Sn w1 1 (.slice A l.length cap) l.length (u8s l) := by rw [hw1]; exact (HS.out.alloc _).alloc _
  have hth : w1.there (w.heap.size + 1) 0 l.length := fun j hj => ⟨by
    rw [hB2.cell, Array.getElem?_eq_getElem (by rw [z64_size]; omega)]; rfl, hB2.frozen _⟩
  have hB2' := setCells_blk (u8s l) 0 w1 z64 hB2
  rw [pad_put l hl] at hB2'
  have hB1' : Blk (w1.setCells (w.heap.size + 1) 0 (u8s l)) w.heap.size 144 z64 := (setCells_other (by omega) _ _ _).trans hB1
  have hb2 : Below w.heap.size w (w1.setCells (w.heap.size + 1) 0 (u8s l)) := hb1.trans (setCells_below (by omega) _ _ _).1
  have hr2 := hB2'.range
  rw [List.toList_toArray] at hr2
  have hz : z64.size = (u8s (pad l)).toArray.size := by rw [z64_size]; simp [hup]
  have HB1 := Lib.hid hB1'
  have HB2 := Lib.hid hb2
  have HR2 := Lib.hid hr2
  have HTH := Lib.hid hth
  have HS1 := Lib.hid hs1
  clear hB1 hB2 hb1 hs1 hth hB2' hB1' hb2 hr2
  have h1 := u8s_one (pad l)
  subst hw1
  go_enter Tryz.func132, Tryz.ntmps132
  go_wp2_with (first
    | (refine al 144 z64 rfl rfl zero64 ?_)
    | (refine cp (.tmp 9) (.tmp 10) rfl rfl rfl rfl Tryz.underlying78 (by kernel_rfl) HS1.out hl HTH.out hu1 ?_)
    | (refine ld 144 _ rfl rfl rfl HR2.out Tryz.underlying144 rfl (by rw [hup]; kernel_rfl) ?_)
    | (refine stBlk 144 (.tmp 2) (.tmp 12) rfl rfl rfl rfl HB1.out (by simp only [List.size_toArray, hup]; kernel_rfl) hz h1 ?_; intro w3 hB3 hb3 _ _))
  have hr3 := hB3.range
  rw [List.toList_toArray] at hr3
  refine bodyPost_ret (results_cellR_tmp rfl _ rfl hr3 Tryz.underlying144 rfl (by rw [hup]; kernel_rfl)) rfl ⟨rfl, HB2.out.trans hb3⟩
end Go.Proofs.YtombncedfleljaaGreat
namespace Go.Proofs.YtombncedfleljaaGreat
open Go.RowKit
attribute [local irreducible] wpQuiet wpAnyH
set_option linter.unusedSimpArgs false

def crc1 (x : Nat) : Nat := if x % 2 = 1 then (x / 2) ^^^ 2197175160 else x / 2
def crc8 (x : Nat) : Nat := crc1 (crc1 (crc1 (crc1 (crc1 (crc1 (crc1 (crc1 x)))))))
theorem crc1_lt {x : Nat} (h : x < 4294967296) : crc1 x < 4294967296 := by
  unfold crc1
  split
  · exact Nat.xor_lt_two_pow (n := 32) (by omega) (by omega)
  · omega
theorem crc8_lt {x : Nat} (h : x < 4294967296) : crc8 x < 4294967296 := by
  unfold crc8
  exact crc1_lt (crc1_lt (crc1_lt (crc1_lt (crc1_lt (crc1_lt (crc1_lt (crc1_lt h)))))))
def crcRun (x : Nat) (l : List Int) : Nat := l.foldl (fun x c => crc8 (x ^^^ c.toNat)) x
def crcSum (l : List Int) : Nat := 4294967295 - crcRun 4294967295 l
theorem crcRun_lt (l : List Int) (hb : Bys l) : ∀ x, x < 4294967296 → crcRun x l < 4294967296 := by
  induction l with
  | nil => intro x h; exact h
  | cons c l ih =>
    intro x h
    have hc := hb c (by simp)
    exact ih (fun b h => hb b (by simp [h])) _ (crc8_lt (Nat.xor_lt_two_pow (n := 32) (by omega) (by omega)))
theorem crcRun_append (x : Nat) (a b : List Int) : crcRun x (a ++ b) = crcRun (crcRun x a) b := by
  unfold crcRun
  rw [List.foldl_append]
theorem crcRun_snoc (x : Nat) (l : List Int) (k : Nat) (h : k < l.length) : crcRun x (l.take (k + 1)) = crc8 (crcRun x (l.take k) ^^^ l[k].toNat) := by
  rw [List.take_succ_eq_append_getElem h, crcRun_append]
  rfl
attribute [irreducible] crcRun

theorem xor_ones (y : Nat) (hy : y < 4294967296) : 4294967295 ^^^ y = 4294967295 - y := by
  have h1 := BitVec.toNat_not (x := BitVec.ofNat 32 y)
  have h2 : (BitVec.allOnes 32 ^^^ BitVec.ofNat 32 y).toNat = (~~~ BitVec.ofNat 32 y).toNat := by rw [BitVec.allOnes_xor]
  rw [BitVec.toNat_xor, h1, BitVec.toNat_allOnes, BitVec.toNat_ofNat, Nat.mod_eq_of_lt (by omega)] at h2
  simpa using h2

set_option maxRecDepth 100000 in
theorem crc_one (x : Nat) (w : World) (hx : x < 4294967296) :
    Calls Tryz.prog 167 #[.int .u32 x] w fun e w' => e = .returned (.int .u32 (crc1 x)) ∧ w = w' := by
  have h1 : bits .and .u32 (x : Int) 1 = ((x % 2 : Nat) : Int) := by
    have := u32_and_nat x 1 hx (by omega)
    rw [Nat.and_one_is_mod] at this
    exact this
  have h2 : bits .xor .u32 ((x : Int) / 2) 2197175160 = (((x / 2) ^^^ 2197175160 : Nat) : Int) := by
    have := u32_xor_nat (x / 2) 2197175160 (by omega) (by omega)
    simpa using this
  rcases Bool.eq_false_or_eq_true ((x : Int) % 2 == 1) with t1 | t1
  all_goals
    go_enter Tryz.func167, Tryz.ntmps167
    go_wp2_with fail
    go_ret
  · have e : crc1 x = (x / 2) ^^^ 2197175160 := by unfold crc1; rw [if_pos (by simp at t1; omega)]
    rw [e]
    exact ⟨rfl, rfl⟩
  · have e : crc1 x = x / 2 := by unfold crc1; rw [if_neg (by simp at t1; omega)]
    rw [e]
    exact ⟨by simp, rfl⟩
def crcIt : Nat → Nat → Nat
  | 0, x => x
  | j + 1, x => crc1 (crcIt j x)
theorem crcIt_lt {x : Nat} (h : x < 4294967296) : ∀ j, crcIt j x < 4294967296
  | 0 => h
  | j + 1 => crc1_lt (crcIt_lt h j)

set_option maxRecDepth 100000 in
theorem crc_eight (x : Nat) (w : World) (hx : x < 4294967296) :
    Calls Tryz.prog 162 #[.int .u32 x] w fun e w' => e = .returned (.int .u32 (crc8 x)) ∧ w = w' := by
  have HX := Lib.hid hx
  clear hx
  go_enter Tryz.func162, Tryz.ntmps162
  go_wp2_with fail
  go_loopw [3, 0] (fun i y wr => ∃ j : Nat, j ≤ 8 ∧ i = .int .i64 j ∧ y = .int .u32 (crcIt j x) ∧ wr = w) (fun i _ _ => 8 - (intOf i).toNat)
  case atStart => exact ⟨0, Nat.zero_le _, rfl, rfl, rfl⟩
  case round =>
    obtain ⟨j, hj, rfl, rfl, hw⟩ := hrel
    rw [hw]
    clear hw
    by_cases hlt : j < 8
    · have hi1 : (j : Int) < 8 := by omega
      go_wp2_with fail
      refine (crc_one (crcIt j x) w (crcIt_lt HX.out j)).mono ?_
      rintro e w1 ⟨rfl, hw1⟩
      subst hw1
      go_wp2_with fail
      exact ⟨⟨j + 1, by omega, by go_num, rfl, by trivial⟩, by simp [intOf]; omega⟩
    · obtain rfl : j = 8 := by omega
      go_wp2_with fail
      go_ret
      exact ⟨rfl, rfl⟩

set_option maxRecDepth 100000 in
set_option maxHeartbeats 1000000 in
theorem crc_add (r x : Nat) (vb : Value) (l : List Int) (w : World) (hc : w.cell? ⟨r, 0, none⟩ = some (.int .u32 x)) (hf : w.frozen? ⟨r, 0, none⟩ = false) (hs : Sn w 1 vb l.length (u8s l)) (hb : Bys l) (hl : l.length < 64) (hx : x < 4294967296) :
    Calls Tryz.prog 155 #[.pointer (some ⟨r, 0, none⟩), vb] w fun e w' => e = .returned (.tuple #[]) ∧ w' = w.setCell ⟨r, 0, none⟩ (.int .u32 (crcRun x l)) := by
  obtain ⟨A, cap, rfl, hcap, _, _⟩ := id hs
  have HS := Lib.hid hs
  have HB := Lib.hid hb
  have HX := Lib.hid hx
  have hl64 : (l.length : Int) < 64 := by omega
  clear hs hb hx
  go_enter Tryz.func155, Tryz.ntmps155
  go_wp2_with fail
  go_loopw [18, 4] (fun i y wr => ∃ j : Nat, j ≤ l.length ∧ i = .int .i64 j ∧ y = .int .u32 (crcRun x (l.take j)) ∧ wr = w) (fun i _ _ => l.length - (intOf i).toNat)
  case atStart => exact ⟨0, Nat.zero_le _, rfl, by simp [crcRun], rfl⟩
  case round =>
    obtain ⟨j, hj, rfl, rfl, hw⟩ := hrel
    rw [hw]
    clear hw
    by_cases hlt : j < l.length
    · obtain ⟨A', cap', hA, _, _, hcell⟩ := HS.out
      injection hA with hA _ hcp
      subst hA hcp
      obtain ⟨b, off, rfl, hr⟩ := hcell (by omega)
      have hcj := hr j _ (u8s_get l j hlt)
      have hby := HB.out l[j] (List.getElem_mem hlt)
      obtain ⟨c, hcc⟩ : ∃ c : Nat, l[j] = c := ⟨l[j].toNat, by omega⟩
      have hsn := crcRun_snoc x l j hlt
      have hy2 := crcRun_lt (l.take j) (fun b hb => HB.out b (List.mem_of_mem_take hb)) x HX.out
      rw [hcc] at hcj hsn hby
      obtain ⟨y, hy⟩ : ∃ y, y = crcRun x (l.take j) := ⟨_, rfl⟩
      rw [← hy] at hsn hy2 ⊢
      have HSN := Lib.hid hsn
      have hxo := u32_xor_nat y c hy2 (by omega)
      have HZ : Hid (y ^^^ c < 4294967296) := Lib.hid (Nat.xor_lt_two_pow (n := 32) (by omega) (by omega))
      have hi0 : (0 : Int) ≤ j := by omega
      have hi1 : (j : Int) < l.length := by omega
      clear hr hcell hsn hy hcc
      go_wp2_with fail
      refine (crc_eight (y ^^^ c) w HZ.out).mono ?_
      rintro e w1 ⟨rfl, hw1⟩
      subst hw1
      go_wp2_with fail
      refine ⟨⟨j + 1, by omega, by go_num, ?_, by trivial⟩, by simp [intOf]; omega⟩
      rw [HSN.out]
      simp
    · obtain rfl : j = l.length := by omega
      rw [List.take_length]
      obtain ⟨y, hy⟩ : ∃ y, y = crcRun x l := ⟨_, rfl⟩
      rw [← hy]
      have HY := Lib.hid hy
      clear hy
      go_wp2_with fail
      go_end0
      rw [HY.out]
      exact ⟨rfl, rfl⟩

set_option maxRecDepth 100000 in
set_option maxHeartbeats 1000000 in
theorem crc_sum (va : Value) (ps : List (Value × List Int)) (w : World) (hp : Parts w va ps) (hn : ps.length ≤ 1000) (hb : ∀ p ∈ ps, Bys p.2) (hl : ∀ p ∈ ps, p.2.length < 64) :
    Calls Tryz.prog 133 #[va] w fun e w' => e = .returned (.int .u32 (crcSum (cat ps))) ∧ Below w.heap.size w w' := by
  obtain ⟨A, cap, rfl, hcap, _, _⟩ := id hp.row
  have HP := Lib.hid hp
  have HB := Lib.hid hb
  have HLE := Lib.hid hl
  clear hp hb hl
  go_enter Tryz.func133, Tryz.ntmps133
  go_wp2_with fail
  go_loopw [10] (fun i wr => ∃ k : Nat, k ≤ ps.length ∧ i = .int .i64 k ∧ wr.cell? ⟨w.heap.size, 0, none⟩ = some (.int .u32 (crcRun 4294967295 (cat (ps.take k)))) ∧ wr.frozen? ⟨w.heap.size, 0, none⟩ = false ∧ Below w.heap.size w wr) (fun i _ => ps.length - (intOf i).toNat)
  case atStart =>
    refine ⟨0, Nat.zero_le _, rfl, ?_, ?_, (by repeat (first | exact Below.refl _ _ | assumption | refine bdrewN ?_ _ | refine Below.setCell ?_ (by first | exact Nat.le_refl _ | assumption | omega | (simp <;> omega)) _ | refine Below.alloc ?_ (by first | exact Nat.le_refl _ | assumption | omega | (simp <;> omega)) _))⟩
    · have e : crcRun 4294967295 (cat (ps.take 0)) = 4294967295 := by simp [crcRun, cat]
      rw [e]
      exact (Blk.new w 240 #[.int .u32 4294967295]).cell 0
    · exact (Blk.new w 240 #[.int .u32 4294967295]).frozen 0
  case round =>
    obtain ⟨k, hk, rfl, hcr, hfr, hbr⟩ := hrel
    by_cases hlt : k < ps.length
    · obtain ⟨b, off, A', c', rfl, hc, hsx⟩ := (HP.out.below hbr).at k hlt
      have hsn := cat_snoc ps k hlt
      have hbx := HB.out ps[k] (List.getElem_mem hlt)
      have hlx := HLE.out ps[k] (List.getElem_mem hlt)
      have hbc : Bys (cat (ps.take k)) := fun b hb => by
        unfold cat at hb
        rw [List.mem_flatMap] at hb
        obtain ⟨p, hp, hb⟩ := hb
        exact HB.out p (List.mem_of_mem_take hp) b hb
      have hlt2 := crcRun_lt _ hbc 4294967295 (by omega)
      have hap : crcRun 4294967295 (cat (ps.take (k + 1))) = crcRun (crcRun 4294967295 (cat (ps.take k))) ps[k].2 := by rw [hsn, crcRun_append]
      obtain ⟨x, hx⟩ : ∃ x, x = ps[k].2 := ⟨_, rfl⟩
      obtain ⟨y, hy⟩ : ∃ y, y = crcRun 4294967295 (cat (ps.take k)) := ⟨_, rfl⟩
      rw [← hx] at hc hsx hap hbx hlx
      rw [← hy] at hap hcr hlt2
      have HAP := Lib.hid hap
      have HSX := Lib.hid hsx
      have HBX := Lib.hid hbx
      have HCR := Lib.hid hcr
      have HLT := Lib.hid hlt2
      have hi0 : (0 : Int) ≤ k := by omega
      have hi1 : (k : Int) < ps.length := by omega
      clear hsx hx hy hsn hap hbx hcr hlt2 hbc
      go_wp2_with fail
      refine (crc_add w.heap.size y _ x wr HCR.out hfr HSX.out HBX.out hlx HLT.out).mono ?_
      rintro e w2 ⟨rfl, hw2⟩
      have hB2 : Below w.heap.size w w2 := by rw [hw2]; exact hbr.setCell (p := ⟨w.heap.size, 0, none⟩) (Nat.le_refl _) _
      have hc2 : w2.cell? ⟨w.heap.size, 0, none⟩ = some (.int .u32 (crcRun y x)) := by rw [hw2]; exact World.cell?_setCell_same _ _ _ HCR.out
      have hf2 : w2.frozen? ⟨w.heap.size, 0, none⟩ = false := by rw [hw2, World.frozen?_setCell]; exact hfr
      clear hw2
      go_wp2_with fail
      refine ⟨⟨k + 1, by omega, by go_num, ?_, hf2, hB2⟩, by simp [intOf]; omega⟩
      rw [HAP.out]
      exact hc2
    · obtain rfl : k = ps.length := by omega
      rw [List.take_length] at hcr
      have hbc : Bys (cat ps) := fun b hb => by
        unfold cat at hb
        rw [List.mem_flatMap] at hb
        obtain ⟨p, hp, hb⟩ := hb
        exact HB.out p hp b hb
      have hlt2 := crcRun_lt _ hbc 4294967295 (by omega)
      have hsum : crcSum (cat ps) = 4294967295 - crcRun 4294967295 (cat ps) := rfl
      obtain ⟨y, hy⟩ : ∃ y, y = crcRun 4294967295 (cat ps) := ⟨_, rfl⟩
      rw [← hy] at hcr hlt2 hsum
      have HSUM := Lib.hid hsum
      clear hy hsum hbc
      go_wp2_with fail
      go_ret
      rw [HSUM.out]
      refine ⟨?_, hbr⟩
      have e1 : bits .xor .u32 IntKind.u32.max (y : Int) = ((4294967295 - y : Nat) : Int) := by
        rw [← xor_ones y hlt2]
        exact u32_xor_nat 4294967295 y (by omega) hlt2
      show Ending.returned (.int .u32 (bits .xor .u32 IntKind.u32.max (y : Int))) = _
      rw [e1]
end Go.Proofs.YtombncedfleljaaGreat
