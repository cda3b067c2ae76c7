import Derived.Test.YtillkpjflcgkeaaGreatMT3
import Derived.Lib.SlBytesConst
import Derived.Shelf.Bytes.SlEqualAll
import Derived.Shelf.Bytes.Small
import Derived.Test.YtillkpjflcgkeaaGreatProg
import Derived.Test.YtillkpjflcgkeaaGreatMT1
import Derived.Test.YtillkpjflcgkeaaGreatMT10
import Derived.Test.YtillkpjflcgkeaaGreatMT9
import Derived.Test.YtillkpjflcgkeaaGreatMT4
import Derived.Laws.Shifts
set_option linter.unusedSimpArgs false
set_option maxRecDepth 100000
namespace Go.Proofs.YtillkpjflcgkeaaGreat
open Go.RowKit
attribute [local irreducible] wpQuiet wpAnyH
def toll : List Int := [84, 79, 76, 76]
set_option maxHeartbeats 1000000 in
theorem frame_header (g : Nat) (w : World) (hg : g < 4294967296) :
  Calls Tryz.prog 65 #[.int .u32 g] w fun e w' => e = .returned (.agg (u8s (rec g toll)).toArray) ∧ Below w.heap.size w w' := by
 have HG := Lib.hid hg
 have hrl : (u8s (rec g toll)).length = 64 := by rw [u8s_length, rec_length g toll (by decide)]
 have h1 := u8s_one (rec g toll)
 have hz : z64.size = (u8s (rec g toll)).toArray.size := by rw [z64_size]; simp [hrl]
 have hb1 : Below w.heap.size w (w.alloc (.cells z64 72)) := (by repeat (first | exact Below.refl _ _ | assumption | refine bdrewN ?_ _ | refine Below.setCell ?_ (by first | exact Nat.le_refl _ | assumption | omega | (simp <;> omega)) _ | refine Below.alloc ?_ (by first | exact Nat.le_refl _ | assumption | omega | (simp <;> omega)) _))
 have hB1 := Blk.new w 72 z64
 have hsz1 : (w.alloc (.cells z64 72)).heap.size = w.heap.size + 1 := by simp
 clear hg
 have hcv := fun W : World => Lib.run_convert_bytes_const (P := Tryz.prog) W 74 5 #[.int .u8 84, .int .u8 79, .int .u8 76, .int .u8 76] 4 4 Tryz.underlying74 Tryz.underlying5
 have hcv1 := hcv (w.alloc (.cells z64 72))
 simp only [hsz1] at hcv1
 clear hcv
 go_enter Tryz.func65, Tryz.ntmps65
 go_wp2_with (refine al 72 z64 rfl rfl zero64 ?_)
 have hsnT : Sn ((w.alloc (.cells z64 72)).alloc (.cells #[.int .u8 84, .int .u8 79, .int .u8 76, .int .u8 76] 5 (4, 5))) 1 (.slice (some ⟨w.heap.size + 1, 0, none⟩) 4 4) toll.length (u8s toll) := by
  refine ⟨_, 4, rfl, Nat.le_refl _, rfl, fun _ => ⟨_, 0, rfl, fun j u hj => ?_⟩⟩
  have hh := heap_alloc_new (w.alloc (.cells z64 72)) (.cells #[.int .u8 84, .int .u8 79, .int .u8 76, .int .u8 76] 5 (4, 5))
  rw [hsz1] at hh
  rw [cell_of_row _ _ _ _ _ _ hh, Nat.zero_add]
  simpa [toll, u8s] using hj
 have hbT : Below w.heap.size w ((w.alloc (.cells z64 72)).alloc (.cells #[.int .u8 84, .int .u8 79, .int .u8 76, .int .u8 76] 5 (4, 5))) := hb1.alloc hb1.size _
 have hBT := hB1.alloc (.cells #[.int .u8 84, .int .u8 79, .int .u8 76, .int .u8 76] 5 (4, 5))
 refine (frame_make g _ toll _ hsnT (fun b hb => by simp only [toll, List.mem_cons, List.not_mem_nil, or_false] at hb; omega) (by decide) HG.out).mono ?_
 rintro e w2 ⟨rfl, hb2⟩
 have hb20 := bstep hbT hb2
 have HB2 := jz (hBT.keep hb2)
 clear hbT hb2 hBT hb1 hB1 hsnT hsz1 hcv1
 go_wp2_with (first
  | (refine al 72 z64 rfl rfl zero64 ?_)
  | (refine stNew 72 (.tmp 3) (.tmp 10) rfl rfl rfl rfl (by simp only [List.size_toArray, hrl]; kernel_rfl) hz h1 ?_; intro w3 hB3 hb3 hs3; have HR3 := jz (Blk.range hB3); have HB3 := jz (HB2.out.keep hb3))
  | (refine ld 72 _ rfl rfl rfl HR3.out Tryz.underlying72 rfl (by rw [List.toList_toArray, hrl]; kernel_rfl) ?_)
  | (refine stBlk 72 (.tmp 2) (.tmp 12) rfl rfl rfl rfl HB3.out (by simp only [List.toList_toArray, List.size_toArray, hrl]; kernel_rfl) (by rw [List.toList_toArray]; exact hz) (by rw [List.toList_toArray]; exact h1) ?_; intro wZ hBZ hbZ _ _))
 have hbF := (bstep hb20 hb3).trans hbZ
 try rw [List.toList_toArray] at hBZ
 refine bodyPost_ret (results_cell_row rfl _ _ w.heap.size 72 _ (0, 0) _ rfl hBZ Tryz.underlying72 rfl (by simp only [List.size_toArray, hrl]; kernel_rfl)) rfl ⟨rfl, hbF⟩
end Go.Proofs.YtillkpjflcgkeaaGreat
namespace Go.Proofs
open Go.Shelf
def Tryz.laysnb115_ren : Go.Shelf.Ren := ⟨fun | 115 => 100 | n => n, fun | 37 => 74 | 4 => 4 | 9 => 9 | 5 => 5 | n => n, fun | n => n⟩
theorem Tryz.laysnb115 : Go.Proofs.Lays.nb115 Tryz.prog Tryz.laysnb115_ren := {
 mixed := by kernel_rfl
 f115 := Tryz.func100.trans (congrArg some (by kernel_rfl))
 t4 := Tryz.underlying4
 a4 := Tryz.isAgg4
 z4 := Tryz.sizeOf4
 v4 := Tryz.zeroValue4
 t9 := Tryz.underlying9
 a9 := Tryz.isAgg9
 z9 := Tryz.sizeOf9
 v9 := Tryz.zeroValue9
 t37 := Tryz.underlying74
 a37 := Tryz.isAgg74
 z37 := Tryz.sizeOf74
 v37 := Tryz.zeroValue74
 t5 := Tryz.underlying5
 a5 := Tryz.isAgg5
 z5 := Tryz.sizeOf5
 v5 := Tryz.zeroValue5 }
theorem Tryz.bytes_Equal_all (p1 p2 : Option Addr) (n c m d : Nat) (xs ys : List Int) (w : World) (hx : xs.length = n) (hy : ys.length = m) (h1 : Lib.BytesIn w p1 n xs) (h2 : Lib.BytesIn w p2 m ys) :
  Calls Tryz.prog 100 #[.slice p1 n c, .slice p2 m d] w fun e w' => e = .returned (.bool (Lib.bytesOf xs == Lib.bytesOf ys)) ∧ w' = w := Any.bytes_Equal_all Tryz.laysnb115 p1 p2 n c m d xs ys w hx hy h1 h2
end Go.Proofs
namespace Go.Proofs.YtillkpjflcgkeaaGreat
open Go.RowKit
theorem bytesOf_inj : ∀ {xs ys : List Int}, Bys xs → Bys ys → Lib.bytesOf xs = Lib.bytesOf ys → xs = ys
 | [], [], _, _, _ => rfl
 | [], _ :: _, _, _, h => by simp [Lib.bytesOf] at h
 | _ :: _, [], _, _, h => by simp [Lib.bytesOf] at h
 | a :: xs, b :: ys, hx, hy, h => by
  simp only [Lib.bytesOf, List.map_cons, List.cons.injEq] at h
  have ha := hx a (by simp)
  have hb := hy b (by simp)
  have h1 := congrArg UInt8.toNat h.1
  simp only [UInt8.toNat_ofNat'] at h1
  rw [bytesOf_inj (fun c hc => hx c (by simp [hc])) (fun c hc => hy c (by simp [hc])) h.2, show a = b by omega]
theorem bytes_equal (v1 v2 : Value) (xs ys : List Int) (w : World) (h1 : Sn w 1 v1 xs.length (u8s xs)) (h2 : Sn w 1 v2 ys.length (u8s ys)) (hx : Bys xs) (hy : Bys ys) :
  Calls Tryz.prog 100 #[v1, v2] w fun e w' => e = .returned (.bool (decide (xs = ys))) ∧ w' = w := by
 have key : ∀ (A : Option Addr) (cap : Nat) (zs : List Int), Sn w 1 (.slice A zs.length cap) zs.length (u8s zs) → Lib.BytesIn w A zs.length zs := by
  intro A cap zs h
  obtain ⟨A', cap', hv, _, _, hx⟩ := h
  injection hv with hA _ _
  subst hA
  intro hp
  obtain ⟨b, off, rfl, hc⟩ := hx hp
  refine ⟨b, off, rfl, fun j hj => hc j _ ?_⟩
  rw [u8s_get zs j hj, List.getD_eq_getElem?_getD, List.getElem?_eq_getElem hj]
  rfl
 obtain ⟨A1, c1, rfl, _, _, _⟩ := id h1
 obtain ⟨A2, c2, rfl, _, _, _⟩ := id h2
 refine (Tryz.bytes_Equal_all A1 A2 xs.length c1 ys.length c2 xs ys w rfl rfl (key _ _ _ h1) (key _ _ _ h2)).mono ?_
 rintro e w' ⟨rfl, rfl⟩
 refine ⟨?_, rfl⟩
 congr 2
 by_cases h : xs = ys
 ·subst h; simp
 ·have : Lib.bytesOf xs ≠ Lib.bytesOf ys := fun e => h (bytesOf_inj hx hy e)
  simp [h, this]
end Go.Proofs.YtillkpjflcgkeaaGreat
namespace Go.Proofs.YtillkpjflcgkeaaGreat
open Go.RowKit
attribute [local irreducible] wpQuiet wpAnyH
def prsH (s : List Int) : Option Nat := match prs s with | some (g, p) => if p = toll then some g else none | none => none
theorem toll_sn (W : World) : Sn (W.alloc (.cells #[.int .u8 84, .int .u8 79, .int .u8 76, .int .u8 76] 5 (4, 5))) 1 (.slice (some ⟨W.heap.size, 0, none⟩) 4 4) toll.length (u8s toll) := by
 refine ⟨_, 4, rfl, Nat.le_refl _, rfl, fun _ => ⟨_, 0, rfl, fun j u hj => ?_⟩⟩
 have hh := heap_alloc_new W (.cells #[.int .u8 84, .int .u8 79, .int .u8 76, .int .u8 76] 5 (4, 5))
 rw [cell_of_row _ _ _ _ _ _ hh, Nat.zero_add]
 simpa [toll, u8s] using hj
theorem toll_bys : Bys toll := fun b hb => by simp only [toll, List.mem_cons, List.not_mem_nil, or_false] at hb; omega
theorem prs_bys {s : List Int} (hb : Bys s) {g : Nat} {p : List Int} (h : prs s = some (g, p)) : Bys p := by
 unfold prs at h
 split at h
 ·cases h
 ·split at h
  ·cases h
  ·split at h
   ·cases h
   ·injection h with h
    injection h with _ h
    subst h
    exact fun b hb' => hb b (List.mem_of_mem_drop (List.mem_of_mem_take hb'))
set_option maxHeartbeats 1000000 in
theorem frame_parse_header (s : List Int) (w : World) (hl : s.length = 64) (hb : Bys s) :
  Calls Tryz.prog 82 #[.agg (u8s s).toArray] w fun e w' => Below w.heap.size w w' ∧
   ((prsH s = none ∧ e = .returned (.tuple #[.int .u32 0, .bool false])) ∨ (∃ g, prsH s = some g ∧ e = .returned (.tuple #[.int .u32 g, .bool true]))) := by
 have hul : (u8s s).length = 64 := by rw [u8s_length, hl]
 have hB1 := Blk.new w 72 (u8s s).toArray
 have hr1 := hB1.range
 rw [List.toList_toArray] at hr1
 have HR1 := Lib.hid hr1
 have hb1 : Below w.heap.size w (w.alloc (.cells (u8s s).toArray 72)) := (Below.refl _ w).alloc (Nat.le_refl _) _
 clear hB1 hr1
 go_enter Tryz.func82, Tryz.ntmps82
 go_wp2_with (refine ld 72 _ rfl rfl rfl HR1.out Tryz.underlying72 rfl (by rw [hul]; kernel_rfl) ?_)
 refine (frame_parse s _ hl hb).mono ?_
 rintro e w2 ⟨hb2, ⟨hn, rfl⟩ | ⟨g, p, v, hp, rfl, hs⟩⟩
 ·have hb20 := bstep hb1 hb2
  have HN : Hid (prsH s = none) := jz (by unfold prsH; rw [hn])
  clear hn
  go_wp2_with fail
  go_ret2
  exact ⟨hb20, .inl ⟨HN.out, rfl⟩⟩
 ·have hb20 := bstep hb1 hb2
  have HP := Lib.hid hp
  have HS := jz (hs.alloc (.cells #[.int .u8 84, .int .u8 79, .int .u8 76, .int .u8 76] 5 (4, 5)))
  have HBP := jz (prs_bys hb hp)
  have HT := jz (toll_sn w2)
  have hcv := Lib.run_convert_bytes_const (P := Tryz.prog) w2 74 5 #[.int .u8 84, .int .u8 79, .int .u8 76, .int .u8 76] 4 4 Tryz.underlying74 Tryz.underlying5
  have HBF : Hid (Below w.heap.size w (w2.alloc (.cells #[.int .u8 84, .int .u8 79, .int .u8 76, .int .u8 76] 5 (4, 5)))) := jz (hb20.alloc hb20.size _)
  clear hp hs hb2 hb20 hb1
  go_wp2_with fail
  refine (bytes_equal _ _ p toll _ HS.out HT.out HBP.out toll_bys).mono ?_
  rintro e w3 ⟨rfl, hw3⟩
  have HW : Hid (Below w.heap.size w w3) := jz (by rw [hw3]; exact HBF.out)
  clear hw3
  rcases Bool.eq_false_or_eq_true (decide (p = toll)) with t1 | t1
  ·rw [t1]
   go_wp2_with fail
   go_ret2
   exact ⟨HW.out, .inr ⟨g, by unfold prsH; rw [HP.out]; simp only; rw [if_pos (of_decide_eq_true t1)], rfl⟩⟩
  ·rw [t1]
   go_wp2_with fail
   go_ret2
   exact ⟨HW.out, .inl ⟨by unfold prsH; rw [HP.out]; simp only; rw [if_neg (of_decide_eq_false t1)], rfl⟩⟩
def zE : Array Value := (entP (List.replicate 32 0, 0)).toArray
theorem zeroE : ∀ w, (zeroValue 43).run Tryz.prog w = .ok (.agg zE) w := fun w => by unfold zE; kernel_rfl
theorem builtE : Tryz.prog.built 43 [] = some zE := by unfold zE; kernel_rfl
theorem zE_size : zE.size = 33 := by simp [zE, entP, entC, u8s]
theorem zE_one : zE.all (·.oneCell') = true := entC_one _ _
def prsE (s : List Int) : Option (Nat × (List Int × Int)) := match prs s with
 | none => none
 | some (g, p) => if p.length = 40 ∧ beN (p.drop 32) ≤ 4611686018427387904 then some (g, (p.take 32, (beN (p.drop 32) : Int))) else none
theorem prs_len {s : List Int} {g : Nat} {p : List Int} (h : prs s = some (g, p)) : p.length ≤ 54 := by
 unfold prs at h
 split at h
 ·cases h
 ·rename_i hn
  split at h
  ·cases h
  ·split at h
   ·cases h
   ·injection h with h
    injection h with _ h
    rw [← h, List.length_take]
    omega
theorem results_cellR_mid {P : Program} {w : World} {fn : Func} {p u x : Tmp} {ty : TypeId} (h : fn.results = #[.tmp u, .cell p ty, .tmp x]) (tmps : Array Value) {b off : Nat} {cs : List Value} {d : TypeDesc} (hp : tmps.getD p undef = .pointer (some ⟨b, off, none⟩)) (hc : w.rangeAt b off cs)
  (hu : P.underlying ty = some d) (hd : d.isRow = true) (hi : (P.info? ty).map (·.size) = some cs.length) : (results fn tmps).run P w = .ok (.tuple #[tmps.getD u undef, .agg cs.toArray, tmps.getD x undef]) w := by
 have h1 : tmps[p]?.getD undef = .pointer (some ⟨b, off, none⟩) := by simpa using hp
 simp [results, h, h1, asAddr, Sem.run_bind, Result.andThen, run_loadVar_mid w b off ty cs d hc hu hd hi]
theorem rd_take32 (r : Nat) (v : Value) (p : List Int) (w : World) (h : RD w r v p false) (hl : p.length ≤ 1000000) :
  Calls Tryz.prog 101 #[.pointer (some ⟨r, 0, none⟩), .int .i64 32] w fun e w' => Off r w w' ∧ ∃ x v' xs ys bad, e = .returned x ∧ xs.length ≤ 32 ∧ Sn w' 1 x xs.length (u8s xs) ∧ RD w' r v' ys bad ∧ (∀ b, v'.ownBlock = some b → v.ownBlock = some b) ∧
   ((bad = false ∧ 32 ≤ p.length ∧ xs = p.take 32 ∧ ys = p.drop 32) ∨ (bad = true ∧ p.length < 32 ∧ xs = [] ∧ ys = [])) := by
 refine (rd_TakeF r v p false 32 w h hl (by omega)).mono ?_
 rintro e w1 ⟨ho, ⟨_, h32, x, v', rfl, hs, hR, hob⟩ | ⟨hbad, rfl, hR⟩⟩
 ·have hlen : (p.take 32).length = 32 := by rw [List.length_take]; omega
  exact ⟨ho, x, v', p.take 32, p.drop 32, false, rfl, by omega, by rw [hlen]; exact hs, hR, hob, .inl ⟨rfl, h32, rfl, rfl⟩⟩
 ·refine ⟨ho, _, _, [], [], true, rfl, by simp, ⟨none, 0, rfl, Nat.le_refl _, rfl, fun h => absurd h (by simp)⟩, hR, (fun b e => by cases e), .inr ⟨rfl, ?_, rfl, rfl⟩⟩
  rcases hbad with h | h
  ·cases h
  ·exact h
theorem rd_num8 (r : Nat) (v : Value) (ys : List Int) (bad : Bool) (w : World) (h : RD w r v ys bad) (hb : Bys ys) (hl : ys.length ≤ 1000000) :
  Calls Tryz.prog 80 #[.pointer (some ⟨r, 0, none⟩), .int .i64 8] w fun e w' => Off r w w' ∧ ∃ (N : Nat) (v' : Value) (zs : List Int) (bad' : Bool), e = .returned (.int .u64 N) ∧ N < 18446744073709551616 ∧ RD w' r v' zs bad' ∧
   ((bad = false ∧ 8 ≤ ys.length ∧ bad' = false ∧ N = beN (ys.take 8) ∧ zs = ys.drop 8) ∨ ((bad = true ∨ ys.length < 8) ∧ bad' = true)) := by
 refine (rd_Number r v ys bad 8 w h hb hl (by omega) (by omega)).mono ?_
 rintro e w1 ⟨ho, ⟨hbad, h8, v', rfl, hR⟩ | ⟨hbad, rfl, hR⟩⟩
 ·refine ⟨ho, _, v', _, false, rfl, ?_, hR, .inl ⟨hbad, h8, rfl, rfl, rfl⟩⟩
  have := beN_lt (ys.take 8) (fun b hb' => hb b (List.mem_of_mem_take hb'))
  rw [List.length_take, Nat.min_eq_left h8] at this
  exact this
 ·exact ⟨ho, 0, _, _, true, rfl, by omega, hR, .inr ⟨hbad, rfl⟩⟩
def copE (xs : List Int) : Array Value := ((u8s xs).zipIdx 0).foldl (fun (cs : Array Value) (x : Value × Nat) => cs.setIfInBounds x.2 x.1) zE
theorem copE_size (xs : List Int) : (copE xs).size = 33 := by
 have key : ∀ (l : List (Value × Nat)) (cs : Array Value), (l.foldl (fun (cs : Array Value) (x : Value × Nat) => cs.setIfInBounds x.2 x.1) cs).size = cs.size := by
  intro l
  induction l with
  | nil => intro cs; rfl
  | cons x l ih => intro cs; rw [List.foldl_cons, ih, Array.size_setIfInBounds]
 unfold copE
 rw [key, zE_size]
theorem copE_set (xs : List Int) (t : Int) (h : xs.length = 32) : (copE xs).setIfInBounds 32 (.int .i64 t) = (entC xs t).toArray := build_ent xs t h zE zE_size
theorem RD.off {w w' : World} {r g : Nat} {v : Value} {xs : List Int} {bad : Bool} (h : RD w r v xs bad) (ho : Off g w w') (hr : r ≠ g) (hv : ∀ b, v.ownBlock = some b → b ≠ g) : RD w' r v xs bad := by
 refine ⟨ho.blk h.1 hr, ?_⟩
 obtain ⟨A, cap, rfl, hc, hl, hx⟩ := h.2
 refine ⟨A, cap, rfl, hc, hl, fun hp => ?_⟩
 obtain ⟨b, off, rfl, hcell⟩ := hx hp
 exact ⟨b, off, rfl, fun j u hj => ho.cell (hcell j u hj) (hv b rfl)⟩
set_option maxHeartbeats 2000000 in
theorem frame_parse_entry (s : List Int) (w : World) (hl : s.length = 64) (hb : Bys s) :
  Calls Tryz.prog 83 #[.agg (u8s s).toArray] w fun e w' => Below w.heap.size w w' ∧
   ((prsE s = none ∧ e = .returned (.tuple #[.int .u32 0, .agg zE, .bool false])) ∨ (∃ g q, prsE s = some (g, q) ∧ e = .returned (.tuple #[.int .u32 g, .agg (entP q).toArray, .bool true]))) := by
 have hul : (u8s s).length = 64 := by rw [u8s_length, hl]
 have HZ : Hid ((Tryz.prog.info? 43).map (·.size) = some zE.size ∧ zE.all (·.oneCell') = true) := Lib.hid ⟨by rw [zE_size]; kernel_rfl, zE_one⟩
 obtain ⟨wa, hwa⟩ : ∃ wa, wa = w.alloc (.cells (u8s s).toArray 72) := ⟨_, rfl⟩
 obtain ⟨gE, hgE⟩ : ∃ g, g = wa.heap.size := ⟨_, rfl⟩
 obtain ⟨w1, hw1⟩ : ∃ w1, w1 = wa.alloc (.cells zE 43) := ⟨_, rfl⟩
 have hB1 : Blk w1 w.heap.size 72 (u8s s).toArray := by rw [hw1, hwa]; exact (Blk.new _ _ _).alloc _
 have hr1 := hB1.range
 rw [List.toList_toArray] at hr1
 have HR1 := Lib.hid hr1
 have HBE : Hid (Blk w1 gE 43 zE) := jz (by rw [hw1, hgE]; exact Blk.new _ _ _)
 have HB1 : Hid (Below w.heap.size w w1) := jz (by rw [hw1, hwa]; exact ((Below.refl _ w).alloc (Nat.le_refl _) _).alloc (by simp) _)
 have HGE : Hid (w.heap.size ≤ gE) := jz (by rw [hgE, hwa]; simp)
 clear hB1 hr1
 go_enter Tryz.func83, Tryz.ntmps83
 go_upto_region 1 with (refine al 43 zE rfl rfl zeroE ?_)
 rw [← hwa, ← hw1, show w.heap.size + 1 = gE by rw [hgE, hwa]; simp]
 clear hwa hw1 hgE
 go_wp2_with (refine ld 72 _ rfl rfl rfl HR1.out Tryz.underlying72 rfl (by rw [hul]; kernel_rfl) ?_)
 refine (frame_parse s w1 hl hb).mono ?_
 rintro e w2 ⟨hb2, ⟨hn, rfl⟩ | ⟨g, p, v, hp, rfl, hs⟩⟩
 ·have HE2 := jz (HBE.out.keep hb2)
  have HB2 : Hid (Below w.heap.size w w2) := jz (bstep HB1.out hb2)
  have HN : Hid (prsE s = none) := jz (by unfold prsE; rw [hn])
  clear hn hb2
  go_wp2_with (first
   | (refine bld 43 #[] rfl rfl rfl builtE ?_)
   | (refine stBlk 43 (.tmp 3) (.tmp 19) rfl rfl rfl rfl HE2.out HZ.out.1 rfl HZ.out.2 ?_; intro w3 hB3 hb3 _ _; have HB3 := Lib.hid hB3; have HE3 := Lib.hid hb3; clear hB3 hb3))
  have hr := HB3.out.range
  exact bodyPost_ret (results_cellR_mid rfl _ rfl hr Tryz.underlying43 rfl (by rw [Array.length_toList]; exact HZ.out.1)) rfl ⟨HB2.out.trans (HE3.out.mono HGE.out), .inl ⟨HN.out, rfl⟩⟩
 ·obtain ⟨gT, hgT⟩ : ∃ g, g = w2.heap.size := ⟨_, rfl⟩
  obtain ⟨w3, hw3⟩ : ∃ w3, w3 = w2.alloc (.cells zE 43) := ⟨_, rfl⟩
  have HB3 : Hid (Below w.heap.size w w3) := jz (by rw [hw3]; exact (bstep HB1.out hb2).alloc (bstep HB1.out hb2).size _)
  have HE3 : Hid (Blk w3 gE 43 zE) := jz (by rw [hw3]; exact (HBE.out.keep hb2).alloc _)
  have HT3 : Hid (Blk w3 gT 43 zE) := jz (by rw [hw3, hgT]; exact Blk.new _ _ _)
  have HS3 : Hid (Sn w3 1 v p.length (u8s p)) := jz (by rw [hw3]; exact hs.alloc _)
  have hlt : gE < gT := by have h1 := HBE.out.lt; have h2 := hb2.size; omega
  have hTs : gT < w3.heap.size := HT3.out.lt
  have HP := Lib.hid hp
  have HPB := jz (prs_bys hb hp)
  have hpl : p.length ≤ 54 := prs_len hp
  clear hp hs hb2
  go_upto_region 5 with (refine al 43 zE rfl rfl zeroE ?_)
  rw [← hw3, ← hgT]
  clear hw3 hgT
  go_wp2_with fail
  refine (wire_newF _ p w3 HS3.out (by omega)).mono ?_
  rintro e w4 ⟨r, v4, rfl, hR4, hfr, hr4, hb4⟩
  have HB4 : Hid (Below w.heap.size w w4.drew) := jz (bstep HB3.out hb4).drew
  have HE4 : Hid (Blk w4.drew gE 43 zE) := jz (HE3.out.keep hb4.drew)
  have HT4 : Hid (Blk w4.drew gT 43 zE) := jz (HT3.out.keep hb4.drew)
  have HR4 : Hid (RD w4.drew r v4 p false) := Lib.hid hR4
  have HFR := Lib.hid hfr
  have hTr : gT < r := by omega
  have HSZ := Lib.hid hb4.size
  clear hR4 hfr hr4 hb4
  go_upto_region 6 with fail
  refine held_start 5 (fun _ => True) (by kernel_rfl) (by kernel_rfl) (trivial) (fun hHeld => ?_)
  refine jT 0 (.fieldAddr 43 (.tmp 8) 0) (some 22) (.pointer (some ⟨gT, 0, none⟩)) hHeld ?_
  simp only [j1, j2, j3, j4, j5]
  refine jT 1 (.slice 41 (.tmp 22) none none none) (some 23) (.slice (some ⟨gT, 0, none⟩) 32 32) hHeld ?_
  simp only [j1, j2, j3, j4, j5]
  refine jM 2 (.tmp 9) (some 24) (.pointer (some ⟨r, 0, none⟩)) hHeld ?_
  simp only [j1, j2, j3, j4, j5]
  refine jW [3] ?_
  refine jC 3 (.call { callee := .value (.func 101), args := #[.tmp 24, .const (.int .i64 32)], argTypes := #[155, 3] }) (some 25) 101 (#[.pointer (some ⟨r, 0, none⟩), .int .i64 32]) ?_ jN
  refine (rd_take32 r v4 p w4.drew HR4.out (by omega)).mono ?_
  rintro e w5 ⟨ho5, x, v5, xs, ys, bad, rfl, hxl, hsx, hR5, hob, hcs⟩
  have HB5 : Hid (Below w.heap.size w w5) := jz (HB4.out.trans (ho5.below (by have := HGE.out; omega) HB4.out.size))
  have HE5 : Hid (Blk w5 gE 43 zE) := jz (ho5.blk HE4.out (by omega))
  have HT5 : Hid (Blk w5 gT 43 zE) := jz (ho5.blk HT4.out (by omega))
  have HR5 := Lib.hid hR5
  have HOB := Lib.hid hob
  have HCS := Lib.hid hcs
  have HSX := Lib.hid hsx
  have HTH5 : Hid (w5.there gT 0 xs.length) := jz (there_blk HT5.out (by rw [zE_size]; omega))
  clear hR5 hob hcs hsx ho5
  refine ⟨_, rfl, trivial, fun hHeld => ?_⟩
  simp only [j1, j2, j3, j4, j5]
  refine jW [4] ?_
  refine rCopy 4 (dT := 74) (sT := 74) (elem := 5) (.tmp 23) (.tmp 25) (some 26) (by kernel_rfl) (by kernel_rfl) (by exact rfl) (by exact rfl) Tryz.underlying74 (by kernel_rfl) HSX.out hxl HTH5.out (u8s_mem _) trivial ?_ jN
  simp only [j1, j2, j3, j4, j5]
  refine wpAnyH_done (by kernel_rfl) ?_ _
  clear hHeld
  have HB6 : Hid (Below w.heap.size w (w5.setCells gT 0 (u8s xs))) := jz (HB5.out.trans (setCells_below (by have := HGE.out; omega) _ _ _).1)
  obtain ⟨w6, hw6⟩ : ∃ w6, w6 = w5.setCells gT 0 (u8s xs) := ⟨_, rfl⟩
  have HE6 : Hid (Blk w6 gE 43 zE) := jz (by rw [hw6]; exact (setCells_off gT _ 0 w5).blk HE5.out (by omega))
  have HT6 : Hid (Blk w6 gT 43 (copE xs)) := jz (by rw [hw6]; exact setCells_blk _ _ _ _ HT5.out)
  have HR6 : Hid (RD w6 r v5 ys bad) := jz (by rw [hw6]; exact HR5.out.off (setCells_off gT _ 0 w5) (by omega) (fun b e => by have := HFR.out b (HOB.out b e); omega))
  rw [← hw6] at HB6 ⊢
  have HYB : Hid (Bys ys) := jz (by
   rcases HCS.out with ⟨_, _, _, e⟩ | ⟨_, _, _, e⟩
   ·rw [e]; exact fun b hb => HPB.out b (List.mem_of_mem_drop hb)
   ·rw [e]; exact fun b hb => by cases hb)
  have hyl : ys.length ≤ 1000000 := by
   rcases HCS.out with ⟨_, _, _, e⟩ | ⟨_, _, _, e⟩
   ·rw [e, List.length_drop]; omega
   ·rw [e]; simp
  clear hw6
  go_wp2_with fail
  refine (rd_num8 r v5 ys bad w6 HR6.out HYB.out hyl).mono ?_
  rintro e w7 ⟨ho7, N, v7, zs, bad7, rfl, hN, hR7, hcs7⟩
  have HB7 : Hid (Below w.heap.size w w7) := jz (HB6.out.trans (ho7.below (by have := HGE.out; omega) HB6.out.size))
  have HE7 : Hid (Blk w7 gE 43 zE) := jz (ho7.blk HE6.out (by omega))
  have HT7 : Hid (Blk w7 gT 43 (copE xs)) := jz (ho7.blk HT6.out (by omega))
  have HR7 := Lib.hid hR7
  have HC7 := Lib.hid hcs7
  clear ho7 hR7 hcs7
  go_wp2_with fail
  refine (rd_Done r v7 zs bad7 w7 HR7.out).mono ?_
  rintro e w8 ⟨rfl, rfl⟩
  obtain ⟨D, hD⟩ : ∃ D, D = (!bad7 && decide (zs.length = 0)) := ⟨_, rfl⟩
  rw [← hD]
  have HD := Lib.hid hD
  clear hD
  have HDT : Hid (D = true → xs = p.take 32 ∧ p.length = 40 ∧ N = beN (p.drop 32)) := jz (fun e => by
   have h := HD.out
   rw [e] at h
   have h1 : bad7 = false := by
    revert h
    cases bad7
    ·intro _; rfl
    ·intro h; simp at h
   have h2 : zs.length = 0 := by rw [h1] at h; simpa using h.symm
   rcases HC7.out with ⟨hb0, h8, _, hNv, hz⟩ | ⟨_, hb1⟩
   ·rcases HCS.out with ⟨_, h32, hxs, hys⟩ | ⟨hb1, _⟩
    ·rw [hz, hys, List.length_drop, List.length_drop] at h2
     rw [hys, List.length_drop] at h8
     refine ⟨hxs, by omega, ?_⟩
     rw [hNv, hys, List.take_of_length_le (by rw [List.length_drop]; omega)]
    ·rw [hb0] at hb1; cases hb1
   ·rw [h1] at hb1; cases hb1)
  have HDF : Hid (D = false → prsE s = none) := jz (fun e => by
   unfold prsE
   rw [HP.out]
   simp only
   rw [if_neg]
   rintro ⟨h40, _⟩
   have h := HD.out
   rw [e] at h
   rcases HCS.out with ⟨hb0, h32, hxs, hys⟩ | ⟨_, h32, _⟩
   ·rcases HC7.out with ⟨_, h8, hb7, hNv, hz⟩ | ⟨hb1, _⟩
    ·rw [hb7, hz, hys, List.length_drop, List.length_drop, h40] at h
     simp at h
    ·rw [hb0, hys, List.length_drop, h40] at hb1
     simp at hb1
   ·omega)
  clear HD HC7 HCS
  cases D with
  | false =>
   go_wp2_with (first
    | (refine bld 43 #[] rfl rfl rfl builtE ?_)
    | (refine stBlk 43 (.tmp 3) (.tmp 36) rfl rfl rfl rfl HE7.out HZ.out.1 rfl HZ.out.2 ?_; intro w9 hB9 hb9 _ _; have HB9 := Lib.hid hB9; have HE9 := Lib.hid hb9; clear hB9 hb9))
   have hr := HB9.out.range
   exact bodyPost_ret (results_cellR_mid rfl _ rfl hr Tryz.underlying43 rfl (by rw [Array.length_toList]; exact HZ.out.1)) rfl ⟨HB7.out.trans (HE9.out.mono HGE.out), .inl ⟨HDF.out (by simp), rfl⟩⟩
  | true =>
   rcases Bool.eq_false_or_eq_true (decide ((4611686018427387904 : Int) < (N : Int))) with t1 | t1
   ·have HNN : Hid (prsE s = none) := jz (by
     unfold prsE
     rw [HP.out]
     simp only
     rw [if_neg]
     rintro ⟨_, h⟩
     have := of_decide_eq_true t1
     have := (HDT.out rfl).2.2
     omega)
    go_wp2_with (first
     | (refine bld 43 #[] rfl rfl rfl builtE ?_)
     | (refine stBlk 43 (.tmp 3) (.tmp 36) rfl rfl rfl rfl HE7.out HZ.out.1 rfl HZ.out.2 ?_; intro w9 hB9 hb9 _ _; have HB9 := Lib.hid hB9; have HE9 := Lib.hid hb9; clear hB9 hb9))
    have hr := HB9.out.range
    exact bodyPost_ret (results_cellR_mid rfl _ rfl hr Tryz.underlying43 rfl (by rw [Array.length_toList]; exact HZ.out.1)) rfl ⟨HB7.out.trans (HE9.out.mono HGE.out), .inl ⟨HNN.out, rfl⟩⟩
   ·have hN62 : (N : Int) ≤ 4611686018427387904 := by have := of_decide_eq_false t1; omega
    have hN0 : (0 : Int) ≤ N := by omega
    have hcv : IntKind.i64.wrap (N : Int) = (N : Int) := IntWalk.i64_in _ (by omega)
    have HXL : Hid (xs.length = 32) := jz (by have := HDT.out rfl; rw [this.1, List.length_take]; omega)
    have HPE : Hid (prsE s = some (g, (xs, (N : Int)))) := jz (by
     have h := HDT.out rfl
     unfold prsE
     rw [HP.out]
     simp only
     rw [if_pos ⟨h.2.1, by rw [← h.2.2]; omega⟩, ← h.1, ← h.2.2])
    have hc32 : w7.cell? ⟨gT, 32, none⟩ = some ((copE xs)[32]'(by rw [copE_size]; omega)) := by rw [HT7.out.cell 32]; exact Array.getElem?_eq_getElem _
    have hf32 := HT7.out.frozen 32
    clear HDF
    go_upto_region 11 with fail
    have HB8 : Hid (Below w.heap.size w (w7.setCell ⟨gT, 32, none⟩ (.int .i64 (N : Int))).drew) := jz ((HB7.out.trans ((Off.refl gT w7).set 32 _ |>.below (by have := HGE.out; omega) HB7.out.size)).drew)
    have HE8 : Hid (Blk (w7.setCell ⟨gT, 32, none⟩ (.int .i64 (N : Int))).drew gE 43 zE) := jz (((Off.refl gT w7).set 32 _).blk HE7.out (by omega))
    have HT8 : Hid (Blk (w7.setCell ⟨gT, 32, none⟩ (.int .i64 (N : Int))).drew gT 43 (entC xs N).toArray) := jz (by have := HT7.out.set_ 32 (.int .i64 (N : Int)); rw [copE_set _ _ HXL.out] at this; exact this)
    obtain ⟨w8, hw8⟩ : ∃ w8, w8 = w7.setCell ⟨gT, 32, none⟩ (.int .i64 (N : Int)) := ⟨_, rfl⟩
    rw [← hw8] at HB8 HE8 HT8 ⊢
    have hEL : (entC xs (N : Int)).length = 33 := by simp [entC, u8s_length, HXL.out]
    have HEL : Hid ((Tryz.prog.info? 43).map (·.size) = some (entC xs (N : Int)).length) := jz (by rw [hEL]; kernel_rfl)
    have HE1 : Hid (∀ u ∈ entC xs (N : Int), u.oneCell' = true) := jz (fun u hu => by
     simp only [entC, List.mem_append, List.mem_singleton] at hu
     rcases hu with hu | rfl
     ·exact u8s_mem _ u hu
     ·rfl)
    have HTR : Hid (w8.drew.rangeAt gT 0 (entC xs (N : Int))) := jz (by have := HT8.out.range; rw [List.toList_toArray] at this; exact this)
    have HTH : Hid (w8.drew.there gE 0 (entC xs (N : Int)).length) := jz (there_blk HE8.out (by rw [hEL, zE_size]; exact Nat.le_refl _))
    have HTR2 : Hid ((w8.drew.setCells gE 0 (entC xs (N : Int))).rangeAt gT 0 (entC xs (N : Int))) := jz (fun i u hi => (World.cell?_of_block (a := ⟨gT, 0 + i, none⟩) (setCells_other (show gT ≠ gE by omega) _ _ _)).trans (HTR.out i u hi))
    clear hw8 hc32 hf32 hEL
    refine held_start 5 (fun w' => w'.rangeAt gT 0 (entC xs (N : Int))) (by kernel_rfl) (by kernel_rfl) (HTR.out) (fun hHeld => ?_)
    refine jM 0 (.tmp 5) (some 40) (.int .u32 g) hHeld ?_
    simp only [j1, j2, j3, j4, j5]
    refine jL 1 43 (.tmp 8) (some 41) (cs := entC xs (N : Int)) (fun _ hX => hX) Tryz.underlying43 rfl HEL.out hHeld ?_
    simp only [j1, j2, j3, j4, j5]
    refine jT 2 (.assign (.tmp 40)) (some 2) (.int .u32 g) hHeld ?_
    simp only [j1, j2, j3, j4, j5]
    refine jW [3] ?_
    refine jR 3 43 (.tmp 3) (.tmp 41) none (cs := entC xs (N : Int)) HTH.out HEL.out HE1.out HTR2.out ?_ jN
    simp only [j1, j2, j3, j4, j5]
    replace hHeld := HTR2.out
    refine jT 4 (.assign (.const (.bool true))) (some 4) (.bool true) hHeld ?_
    simp only [j1, j2, j3, j4, j5]
    refine wpAnyH_done (by kernel_rfl) ?_ _
    clear hHeld
    have hrr := World.rangeAt_setCells_same w8.drew gE 0 (entC xs (N : Int)) HTH.out
    have HBF : Hid (Below w.heap.size w (w8.drew.setCells gE 0 (entC xs (N : Int)))) := jz (HB8.out.trans (setCells_below HGE.out _ _ _).1)
    obtain ⟨w9, hw9⟩ : ∃ w9, w9 = w8.drew.setCells gE 0 (entC xs (N : Int)) := ⟨_, rfl⟩
    rw [← hw9] at hrr HBF ⊢
    clear hw9
    have HRR := Lib.hid hrr
    clear hrr
    go_wp2_with fail
    exact bodyPost_ret (results_cellR_mid rfl _ rfl HRR.out Tryz.underlying43 rfl HEL.out) rfl ⟨HBF.out, .inr ⟨g, _, HPE.out, rfl⟩⟩
section
variable {P : Program}
theorem s2a {ops : Array Oper} {rest : List Oper} {o : Oper} {a : Act} {w : World} {Q : Exit → Act → World → Prop} (arr : TypeId) (x : Operand) (ho : o.op = .sliceToArrayPointer arr x) (hw : Region.wanted o (yielded ops a.tmps) = true)
  {A : Option Addr} {n cap m : Nat} {e : TypeId} (hv : a.eval x = .slice A n cap) (hu : P.underlying arr = some (.array m e)) (hn : m ≤ n)
  (h : wpList P ops Q rest (a.put o.dst (.pointer A)) w) : wpList P ops Q (o :: rest) a w :=
 wpList_step fun K hK => by
  rw [if_pos hw]
  unfold Oper.wp
  have hrun : (execOp a.eval o).run P w = .ok (.value (.pointer A)) w := by
   unfold execOp
   simp only [ho, hv, Instr.arrayAt]
   simp only [Sem.run_bind, Sem.run_pure, Result.andThen_ok, run_underlying hu, if_neg (Nat.not_lt.2 hn)]
  rw [hrun, Oper.upon_value]
  exact hK _ _ h
theorem pv {ops : Array Oper} {rest : List Oper} {o : Oper} {a : Act} {w : World} {Q : Exit → Act → World → Prop} (op : Op) (_ : o.op = op) (hw : Region.wanted o (yielded ops a.tmps) = true)
  {v : Value} (hrun : (execOp a.eval o).run P w = .ok (.value v) w) (h : wpList P ops Q rest (a.put o.dst v) w) : wpList P ops Q (o :: rest) a w :=
 wpList_step fun K hK => by
  rw [if_pos hw]
  unfold Oper.wp
  rw [hrun, Oper.upon_value]
  exact hK _ _ h
end
def spX (x : Nat) : Nat := (x * 6364136223846793005 + 1442695040888963407) % 18446744073709551616
def spB (x : Nat) : Int := ((x / 8589934592 % 256 : Nat) : Int)
def spIt (x : Nat) : Nat → Nat
 | 0 => x
 | n + 1 => spX (spIt x n)
def spL (x : Nat) (n : Nat) : List Int := (List.range n).map fun j => spB (spIt x (j + 1))
theorem spL_length (x n : Nat) : (spL x n).length = n := by simp [spL]
theorem spL_bys (x n : Nat) : Bys (spL x n) := fun b hb => by
 simp only [spL, List.mem_map] at hb
 obtain ⟨j, _, rfl⟩ := hb
 unfold spB
 omega
theorem spL_succ (x n : Nat) : spL x (n + 1) = spL x n ++ [spB (spIt x (n + 1))] := by simp [spL, List.range_succ]
theorem spIt_lt {x : Nat} (h : x < 18446744073709551616) : ∀ n, spIt x n < 18446744073709551616
 | 0 => h
 | n + 1 => Nat.mod_lt _ (by omega)
theorem list_of_range32 (s : List Int) (h : s.length = 32) : s = (List.range 32).map (fun i => s.getD i 0) := by
 apply List.ext_getElem
 ·simp [h]
 ·intro i h1 h2
  simp [h1]
theorem built_num (s : List Int) (t : Int) (h : s.length = 32) : Tryz.prog.built 43 [(0, .agg (u8s s).toArray), (1, .int .i64 t)] = some (entP (s, t)).toArray := by
 rw [list_of_range32 s h]
 generalize (fun i => s.getD i 0) = D
 kernel_rfl
def numE (n : Nat) (t : Int) : List Int × Int := (spL n 32, t)
theorem numE_ok (n : Nat) (t : Int) (ht : isI64 t) : EntOk (numE n t) := ⟨⟨spL_length _ _, spL_bys _ _⟩, ht⟩
set_option maxHeartbeats 1000000 in
theorem spread_any (x n : Nat) (w : World) (hx : x < 18446744073709551616) (hn : n ≤ 100000) :
  Calls Tryz.prog 45 #[.int .u64 x, .int .i64 n] w fun e w' => ∃ v, e = .returned v ∧ w'.ownsRow w.heap.size 5 1 v n (u8s (spL x n)) ∧ Below w.heap.size w w' := by
 have HX := Lib.hid hx
 clear hx
 go_enter Tryz.func45, Tryz.ntmps45
 go_wp2_with fail
 go_loopw [5, 6, 7] (fun out y i wr => ∃ k : Nat, k ≤ n ∧ i = .int .i64 k ∧ y = .int .u64 (spIt x k) ∧ Hid (wr.ownsRow w.heap.size 5 1 out k (u8s (spL x k))) ∧ Hid (Below w.heap.size w wr)) (fun _ _ i _ => n - (intOf i).toNat)
 case atStart => exact ⟨0, Nat.zero_le _, rfl, rfl, jz (World.ownsRow_nil _ _ _ _), jz (Below.refl _ _)⟩
 case round =>
  obtain ⟨k, hk, rfl, rfl, HO, HB⟩ := hrel
  have hszr := HB.out.size
  rcases Nat.lt_or_ge k n with hlt | hge
  ·have hb := spIt_lt HX.out k
   have k1 : IntKind.u64.wrap (IntKind.u64.wrap ((spIt x k : Int) * 6364136223846793005) + 1442695040888963407) = (spIt x (k + 1) : Int) := by
    show _ = ((spX (spIt x k) : Nat) : Int)
    unfold IntKind.wrap spX
    simp only [IntKind.signed, IntKind.bits]
    simp
   have hy := spIt_lt HX.out (k + 1)
   have HSU := jz (spL_succ x k)
   obtain ⟨y, hyd⟩ : ∃ y, y = spIt x (k + 1) := ⟨_, rfl⟩
   have HYD := Lib.hid hyd
   rw [← hyd] at k1 hy HSU
   clear hyd
   have hsh : (Int.fdiv (y : Int) 8589934592) = ((y / 8589934592 : Nat) : Int) := by rw [Int.fdiv_eq_ediv_of_nonneg _ (by omega)]; omega
   have k3 : IntKind.u8.wrap ((y / 8589934592 : Nat) : Int) = spB y := by unfold IntKind.wrap spB; simp [IntKind.signed, IntKind.bits]
   go_wp2_with (first | (refine pv (v := .int .u64 ((y : Int).fdiv 8589934592)) (Op.binOp BinOp.shr 103 (Operand.tmp 18) (Operand.const (Value.int IntKind.u64 33)) 110) rfl rfl (by kernel_rfl) ?_; rw [hsh]) | (at_builtin; refine app tByt (.tmp 17) (.tmp 21) rfl rfl (by rfl) (World.ownsRow.alloc HO.out _) (by rfl) (Sn.new wr (u8s [spB y]).toArray 5 1 1 rfl) (u8s_mem [spB y]) (by unfold maxLen; omega) (by omega) (by simp; omega) ?_; intro v3 w3 hown hgrow _; rw [List.toList_toArray, ← u8s_append] at hown; have HO3 := Lib.hid hown; have HB3 := jz ((HB.out.alloc hszr _).grown hgrow (by simp; omega) (fun g hg => (World.ownsRow.lt HO.out g hg).1)); clear hown hgrow))
   exact ⟨⟨k + 1, by omega, by go_num, by rw [HYD.out], jz (by rw [HSU.out]; exact HO3.out), HB3⟩, by simp [intOf]; omega⟩
  ·obtain rfl : k = n := by omega
   go_wp2_with fail
   go_ret
   exact ⟨_, rfl, HO.out, HB.out⟩
set_option maxHeartbeats 1000000 in
theorem number17 (n : Nat) (t : Int) (w : World) (hn : n < 4294967296) (ht : isI64 t) :
  Calls Tryz.prog 20 #[.int .i64 n, .int .i64 t] w fun e w' => e = .returned (.agg (entP (numE n t)).toArray) ∧ Below w.heap.size w w' := by
 have HN : Hid (numE n t = (spL n 32, t)) := Lib.hid rfl
 have HSP := jz (fun w1 => spread_any n 32 w1 (by omega) (by omega))
 have h3 := spL_length n 32
 have h2 : (entP (spL n 32, t)).length = 33 := entP_length _ (numE_ok n t ht)
 rw [HN.out]
 obtain ⟨s, hs⟩ : ∃ s, s = spL n 32 := ⟨_, rfl⟩
 rw [← hs] at HSP h2 h3 ⊢
 clear hs HN ht
 have h1 : (entP (s, t)).toArray.all (·.oneCell') = true := entC_one _ _
 have HS : Hid ((u8s s).length = 32) := jz (by rw [u8s_length, h3])
 have HBL := jz (built_num s t h3)
 have hn0 : (0 : Int) ≤ n := by omega
 have hsz : zE.size = (entP (s, t)).toArray.size := by rw [zE_size, List.size_toArray, h2]
 have hsz2 : (Tryz.prog.info? 43).map (·.size) = some (entP (s, t)).toArray.size := by rw [List.size_toArray, h2]; kernel_rfl
 obtain ⟨E, hE⟩ : ∃ E, E = (entP (s, t)).toArray := ⟨_, rfl⟩
 rw [← hE] at h1 HBL hsz hsz2 ⊢
 clear hE h2 h3
 obtain ⟨w1, hw1⟩ : ∃ w1, w1 = w.alloc (.cells zE 43) := ⟨_, rfl⟩
 have HB1 : Hid (Below w.heap.size w w1) := jz (by rw [hw1]; exact (Below.refl _ w).alloc (Nat.le_refl _) _)
 have HE1 : Hid (Blk w1 w.heap.size 43 zE) := jz (by rw [hw1]; exact Blk.new _ _ _)
 go_enter Tryz.func20, Tryz.ntmps20
 go_wp2_with (refine al 43 _ rfl rfl zeroE ?_)
 rw [← hw1]
 clear hw1
 refine (HSP.out w1).mono ?_
 rintro e w2 ⟨v, rfl, ho, hb2⟩
 have HB2 := jz (bstep HB1.out hb2)
 have HE2 := jz (HE1.out.keep hb2)
 obtain ⟨A, cap, rfl, _, _, hx⟩ := Sn.own ho
 obtain ⟨b, off, rfl, hcell⟩ := hx (by omega)
 have HR : Hid (w2.rangeAt b off (u8s s)) := Lib.hid hcell
 clear ho hb2 hx hcell
 go_wp2_with (first
  | (refine s2a 41 _ rfl rfl rfl Tryz.underlying41 (by omega) ?_)
  | (refine ld 41 _ rfl rfl rfl HR.out Tryz.underlying41 rfl (by rw [HS.out]; kernel_rfl) ?_)
  | (refine bld 43 _ rfl rfl rfl HBL.out ?_)
  | (refine stBlk 43 (.tmp 4) (.tmp 11) rfl rfl rfl rfl HE2.out hsz2 hsz h1 ?_; intro w3 hB3 hb3 _ _; have HB3 := Lib.hid hB3; have HE3 := Lib.hid hb3; clear hB3 hb3))
 refine bodyPost_ret (results_cell_row rfl _ _ w.heap.size 43 _ (0, 0) _ rfl HB3.out Tryz.underlying43 rfl hsz2) rfl ⟨rfl, ?_⟩
 exact HB2.out.trans (HE3.out.mono (Nat.le_refl _))
end Go.Proofs.YtillkpjflcgkeaaGreat
namespace Go.Proofs.YtillkpjflcgkeaaGreat
open Go.RowKit
attribute [local irreducible] wpQuiet wpAnyH
section
variable {P : Program}
theorem shrN {ops : Array Oper} {rest : List Oper} {o : Oper} {a : Act} {w : World} {Q : Exit → Act → World → Prop} (t t2 : TypeId) (x y : Operand) (ho : o.op = .binOp .shr t x y t2) (hw : Region.wanted o (yielded ops a.tmps) = true)
  {k yk : IntKind} {n m : Nat} (hx : a.eval x = .int k n) (hy : a.eval y = .int yk m) (hm : m ≤ k.bits)
  (h : wpList P ops Q rest (a.put o.dst (.int k ((n / 2 ^ m : Nat) : Int))) w) : wpList P ops Q (o :: rest) a w :=
 wpList_step fun K hK => by
  rw [if_pos hw]
  unfold Oper.wp
  have hrun : (execOp a.eval o).run P w = .ok (.value (.int k ((n / 2 ^ m : Nat) : Int))) w := by
   unfold execOp
   simp only [ho, hx, hy]
   have hs : (binOp .shr t (.int k n) (.int yk m)).run P w = .ok (.int k ((n / 2 ^ m : Nat) : Int)) w := by
    show (Op.shift .shr k n yk m).run P w = _
    rw [shift_shr k yk n m (by omega) (by omega)]
    simp
   have hg : (eqGuard .shr t x y (.int k n) (.int yk m)).run P w = .ok () w := rfl
   simp only [Sem.run_bind, hg, hs, Result.andThen_ok]
   rfl
  rw [hrun, Oper.upon_value]
  exact hK _ _ h
end
def rk (x c k : Nat) : Nat := crcIt k (x ^^^ c) ^^^ (c / 2 ^ k)
theorem rk_zero (x c : Nat) : rk x c 0 = x := by
 unfold rk crcIt
 rw [Nat.pow_zero, Nat.div_one, Nat.xor_assoc, Nat.xor_self, Nat.xor_zero]
theorem xor_div2 (a b : Nat) : (a ^^^ b) / 2 = a / 2 ^^^ b / 2 := by
 have := Nat.shiftRight_xor_distrib (a := a) (b := b) (i := 1)
 simpa [Nat.shiftRight_eq_div_pow] using this
theorem xor_mod2 (a b : Nat) : (a ^^^ b) % 2 = a % 2 ^^^ b % 2 := by
 have := Nat.xor_mod_two_pow (a := a) (b := b) (n := 1)
 simpa using this
theorem rk_out (x c k : Nat) : (rk x c k % 2) ^^^ (c / 2 ^ k % 2) = crcIt k (x ^^^ c) % 2 := by
 unfold rk
 rw [xor_mod2, Nat.xor_assoc, Nat.xor_self, Nat.xor_zero]
theorem rk_next (x c k : Nat) : rk x c (k + 1) = if crcIt k (x ^^^ c) % 2 = 1 then (rk x c k / 2) ^^^ 2197175160 else rk x c k / 2 := by
 have e : c / 2 ^ (k + 1) = c / 2 ^ k / 2 := by rw [Nat.pow_succ, Nat.div_div_eq_div_mul]
 unfold rk
 rw [show crcIt (k + 1) (x ^^^ c) = crc1 (crcIt k (x ^^^ c)) from rfl, xor_div2, e]
 unfold crc1
 split
 ·rw [Nat.xor_assoc, Nat.xor_comm 2197175160, ← Nat.xor_assoc]
 ·rfl
theorem rk_lt {x c : Nat} (hx : x < 4294967296) (hc : c < 256) (k : Nat) : rk x c k < 4294967296 :=
 Nat.xor_lt_two_pow (n := 32) (crcIt_lt (Nat.xor_lt_two_pow (n := 32) (by omega) (by omega)) k) (Nat.lt_of_le_of_lt (Nat.div_le_self _ _) (by omega))
theorem rk_eight {x c : Nat} (hc : c < 256) : rk x c 8 = crc8 (x ^^^ c) := by
 unfold rk
 rw [Nat.div_eq_of_lt (show c < 2 ^ 8 by omega), Nat.xor_zero]
 rfl
set_option maxHeartbeats 2000000 in
theorem ref_update (l : List Int) (v : Value) (w : World) (hs : Sn w 1 v l.length (u8s l)) (hb : Bys l) (hl : l.length ≤ 1000000) :
  Calls Tryz.prog 93 #[.int .u32 0, v] w fun e w' => e = .returned (.int .u32 (crcSum l)) ∧ Below w.heap.size w w' := by
 obtain ⟨A, cap, rfl, hcap, _, _⟩ := id hs
 have HS := Lib.hid hs
 have HB := Lib.hid hb
 clear hs hb
 have hru : crcRun 4294967295 [] = 4294967295 := by unfold crcRun; rfl
 go_enter Tryz.func93, Tryz.ntmps93
 go_wp2_with fail
 go_loopw [5, 6] (fun r i wr => ∃ k : Nat, k ≤ l.length ∧ i = .int .i64 k ∧ r = .int .u32 (crcRun 4294967295 (l.take k)) ∧ wr = w) (fun _ i _ => l.length - (intOf i).toNat)
 case atStart => exact ⟨0, Nat.zero_le _, rfl, by rw [List.take_zero, hru]; rfl, rfl⟩
 case round =>
  obtain ⟨k, hk, rfl, rfl, hW⟩ := hrel
  rw [hW]
  clear hW
  rcases Nat.lt_or_ge k l.length with hlt | hge
  ·obtain ⟨A', cap', hv, _, _, hx⟩ := HS.out
   injection hv with hv _ hv2
   obtain ⟨b, off, he, hcell⟩ := hx (by omega)
   subst hv hv2 he
   have hc0 := HB.out l[k] (List.getElem_mem hlt)
   have hi := hcell k _ (u8s_get l k hlt)
   obtain ⟨c, hc⟩ : ∃ c : Nat, l[k] = c := ⟨l[k].toNat, by omega⟩
   have HSNOC : Hid (crcRun 4294967295 (l.take (k + 1)) = rk (crcRun 4294967295 (l.take k)) c 8) := jz (by
    rw [rk_eight (by omega), crcRun_snoc _ _ _ hlt, hc]; rfl)
   rw [hc] at hi hc0
   have hx0 : crcRun 4294967295 (l.take k) < 4294967296 := crcRun_lt _ (fun b hb => HB.out b (List.mem_of_mem_take hb)) _ (by omega)
   obtain ⟨x, hxd⟩ : ∃ x, x = crcRun 4294967295 (l.take k) := ⟨_, rfl⟩
   rw [← hxd] at HSNOC hx0 ⊢
   have hi0 : (0 : Int) ≤ k := by omega
   have hi1 : (k : Int) < l.length := by omega
   clear hxd hc hcell hx
   go_wp2_with fail
   go_loopw [5, 7] (fun r i wr => ∃ j : Nat, j ≤ 8 ∧ i = .int .i64 j ∧ r = .int .u32 (rk x c j) ∧ wr = w) (fun _ i _ => 8 - (intOf i).toNat)
   case atStart => exact ⟨0, Nat.zero_le _, rfl, by rw [rk_zero], rfl⟩
   case round =>
    obtain ⟨j, hj, rfl, rfl, hW⟩ := hrel
    rw [hW]
    clear hW
    rcases Nat.lt_or_ge j 8 with hj8 | hj8
    ·have hr := rk_lt (x := x) (c := c) hx0 (by omega) j
     have o1 := u32_xor_nat (rk x c j % 2) (c / 2 ^ j % 2) (by omega) (by omega)
     rw [rk_out] at o1
     have hn := rk_next x c j
     have o2 := u32_xor_nat (rk x c j / 2) 2197175160 (by omega) (by omega)
     have hj0 : (0 : Int) ≤ j := by omega
     have hj1 : (j : Int) < 8 := by omega
     have hcj : c / 2 ^ j < 256 := Nat.lt_of_le_of_lt (Nat.div_le_self _ _) (by omega)
     have HN := Lib.hid hn
     clear hn
     have o1' : bits .xor .u32 ((rk x c j : Int) % 2) (((c / 2 ^ j : Nat) : Int) % 2) = ((crcIt j (x ^^^ c) % 2 : Nat) : Int) := o1
     have o2' : bits .xor .u32 ((rk x c j : Int) / 2) 2197175160 = ((rk x c j / 2 ^^^ 2197175160 : Nat) : Int) := o2
     have e : ((c / 2 ^ j : Nat) : Int) = (c : Int) / 2 ^ j := by simp
     rw [e] at o1'
     clear o1 o2 e
     rcases Nat.mod_two_eq_zero_or_one (crcIt j (x ^^^ c)) with h2 | h2
     all_goals
      rw [h2] at o1' HN
      go_wp2_with (refine shrN _ _ _ _ rfl rfl (n := c) (m := j) rfl rfl (by show j ≤ 8; omega) ?_)
      exact ⟨⟨j + 1, by omega, by go_num, by rw [HN.out]; simp, trivial⟩, by simp [intOf]; omega⟩
    ·obtain rfl : j = 8 := by omega
     go_wp2_with fail
     exact ⟨⟨k + 1, by omega, by go_num, by rw [HSNOC.out], trivial⟩, by simp [intOf]; omega⟩
  ·obtain rfl : k = l.length := by omega
   rw [List.take_length]
   have h1 := crcRun_lt l HB.out 4294967295 (by omega)
   have HCS : Hid (((crcSum l : Nat) : Int) = 4294967295 - (crcRun 4294967295 l : Int)) := jz (by unfold crcSum; omega)
   go_wp2_with fail
   go_ret
   exact ⟨by rw [HCS.out]; rfl, Below.refl _ _⟩
theorem ref_sum (l : List Int) (v : Value) (w : World) (hs : Sn w 1 v l.length (u8s l)) (hb : Bys l) (hl : l.length ≤ 1000000) :
  Calls Tryz.prog 74 #[v] w fun e w' => e = .returned (.int .u32 (crcSum l)) ∧ Below w.heap.size w w' := by
 obtain ⟨A, cap, rfl, _, _, _⟩ := id hs
 go_enter Tryz.func74, Tryz.ntmps74
 go_wp2_with fail
 refine (ref_update l _ w hs hb hl).mono ?_
 rintro e w1 ⟨rfl, hb1⟩
 go_wp2_with fail
 go_ret
 exact ⟨rfl, hb1⟩
end Go.Proofs.YtillkpjflcgkeaaGreat
namespace Go.Proofs.YtillkpjflcgkeaaGreat
open Go.RowKit
attribute [local irreducible] wpQuiet wpAnyH
def wsD (d : DiskD) (a : Int) (s : List Int) : DiskD := match writeA d a with | some _ => writeD d a s | none => syncS (writeD d a s)
def wsA (d : DiskD) (a : Int) (s : List Int) : Ans := match writeA d a with | some x => some x | none => syncA (writeD d a s)
theorem stepped_room {d : DiskD} (h : d.steps ≤ d.room) : (stepped d).room ≤ d.room + 1 := by show max d.room (d.steps + 1) ≤ d.room + 1; omega
theorem writeD_room {d : DiskD} (h : d.steps ≤ d.room) (a : Int) (s : List Int) : (writeD d a s).room ≤ d.room + 2 := by
 have h1 := stepped_room h
 have h2 := addIf_room (stepped d) a s
 unfold writeD
 split
 ·omega
 ·split
  ·show (addIf (stepped d) a s).room ≤ _; omega
  ·split <;> omega
theorem rec_bys (g : Nat) (p : List Int) (hb : Bys p) : Bys (rec g p) := fun b h => by
 unfold rec at h
 rcases List.mem_append.1 h with h | h
 ·exact body_bys hb b (List.mem_of_mem_take h)
 ·rcases List.mem_append.1 h with h | h
  ·exact beB_bys _ _ b h
  ·exact beB_bys _ _ b h
theorem neq_nil (t : TypeId) (u : Value) (w : World) : (binOp .neq 53 (.iface t u) .nilIface).run Tryz.prog w = .ok (.bool true) w := by kernel_rfl
set_option maxHeartbeats 2000000 in
theorem slot_commit (f z : Int) (g : Nat) (w : World) (m : DiskM) (d : DiskD) (h : DK w m d) (hf : isI64 f) (hg : g < 4294967296) (hr : d.room + 3 ≤ 100000) :
  Calls Tryz.prog 41 #[.pointer (some ⟨m.g, 0, none⟩), .agg #[.int .i64 f, .int .i64 z], .int .u32 g] w fun e w' => e = .returned (valE (wsA d f (rec g toll))) ∧ ∃ m', DK w' m' (wsD d f (rec g toll)) ∧ DT w m w' m' := by
 have hB0 : Below w.heap.size w (w.alloc (.cells #[.int .i64 f, .int .i64 z] 85)) := (Below.refl _ w).alloc (Nat.le_refl _) _
 obtain ⟨w1, hw1⟩ : ∃ w1, w1 = w.alloc (.cells #[.int .i64 f, .int .i64 z] 85) := ⟨_, rfl⟩
 have HK1 : Hid (DK w1.drew m d) := jz (by rw [hw1]; exact (h.keep hB0).drew)
 have HB1 : Hid (Below w.heap.size w w1.drew) := jz (by rw [hw1]; exact hB0.drew)
 have HC1 : Hid (w1.drew.cell? ⟨w.heap.size, 0, none⟩ = some (.int .i64 f)) := jz (by rw [hw1]; exact (Blk.new w _ #[.int .i64 f, .int .i64 z]).cell 0)
 have HNF := jz (h.notFoot (Nat.le_refl w.heap.size))
 have HSR : Hid (Sec (rec g toll)) := Lib.hid ⟨rec_length g toll (by decide), rec_bys g toll toll_bys⟩
 have hst := h.ok.st
 clear h hB0
 go_enter Tryz.func41, Tryz.ntmps41
 go_upto_region 1 with fail
 rw [← hw1]
 clear hw1
 refine held_start 7 (fun w' => w'.cell? ⟨w.heap.size, 0, none⟩ = some (.int .i64 f)) (by kernel_rfl) (by kernel_rfl) (HC1.out) (fun hHeld => ?_)
 refine jM 0 (.tmp 0) (some 8) (.pointer (some ⟨m.g, 0, none⟩)) hHeld ?_
 simp only [j1, j2, j3, j4, j5]
 refine jT 1 (.fieldAddr 85 (.tmp 4) 0) (some 9) (.pointer (some ⟨w.heap.size, 0, none⟩)) hHeld ?_
 simp only [j1, j2, j3, j4, j5]
 refine jT 2 (.load 3 (.tmp 9)) (some 10) (.int .i64 f) hHeld ?_
 simp only [j1, j2, j3, j4, j5]
 refine jM 3 (.tmp 2) (some 11) (.int .u32 g) hHeld ?_
 simp only [j1, j2, j3, j4, j5]
 refine jW [4] ?_
 refine jC 4 (.call { callee := .value (.func 65), args := #[.tmp 11], argTypes := #[35] }) (some 12) 65 (#[.int .u32 g]) ?_ jN
 refine (frame_header g w1.drew hg).mono ?_
 rintro e w2 ⟨rfl, hb2⟩
 have HK2 := jz (HK1.out.keep hb2)
 have HB2 : Hid (Below w.heap.size w w2) := jz (bstep HB1.out hb2)
 refine ⟨_, rfl, Below.cell' hb2 hHeld, fun hHeld => ?_⟩
 simp only [j1, j2, j3, j4, j5]
 refine jW [5] ?_
 refine jC 5 (.call { callee := .value (.func 29), args := #[.tmp 8, .tmp 10, .tmp 12], argTypes := #[25, 3, 72] }) (some 13) 29 (#[.pointer (some ⟨m.g, 0, none⟩), .int .i64 f, .agg (u8s (rec g toll)).toArray]) ?_ jN
 refine (disk_write f (rec g toll) w2 m d HK2.out hf HSR.out (by omega)).mono ?_
 rintro e w3 ⟨rfl, m3, hdk, hdt⟩
 rw [writeE_val]
 refine ⟨_, rfl, hdt.fo.cell hHeld HNF.out, fun hHeld => ?_⟩
 simp only [j1, j2, j3, j4, j5]
 refine jT 6 (.assign (.tmp 13)) (some 7) (valE (writeA d f)) hHeld ?_
 simp only [j1, j2, j3, j4, j5]
 refine wpAnyH_done (by kernel_rfl) ?_ _
 clear hHeld
 have HDT : Hid (DT w m w3 m3) := jz ((DT.of_below HB2.out).trans hdt)
 have HDK := Lib.hid hdk
 have HRM : Hid ((writeD d f (rec g toll)).room ≤ d.room + 2) := jz (writeD_room hst f _)
 clear hdk hdt
 have hg3 : m3.g = m.g := HDT.out.g
 cases ha : writeA d f with
 | some x =>
  have HF : Hid (wsA d f (rec g toll) = some x ∧ wsD d f (rec g toll) = writeD d f (rec g toll)) := jz (by unfold wsA wsD; rw [ha]; exact ⟨rfl, rfl⟩)
  obtain ⟨t, u, hv⟩ := valE_form x
  rw [hv]
  have HV := Lib.hid hv
  have hne := neq_nil t u
  clear ha hv
  go_wp2_with fail
  go_ret
  exact ⟨by rw [HF.out.1, HV.out]; rfl, m3, by rw [HF.out.2]; exact HDK.out, HDT.out⟩
 | none =>
  have HF : Hid (wsA d f (rec g toll) = syncA (writeD d f (rec g toll)) ∧ wsD d f (rec g toll) = syncS (writeD d f (rec g toll))) := jz (by unfold wsA wsD; rw [ha]; exact ⟨rfl, rfl⟩)
  have hv : valE none = .nilIface := rfl
  rw [hv]
  clear ha
  go_wp2_with fail
  rw [← hg3]
  refine (disk_sync w3 m3 _ HDK.out (by have := HRM.out; omega)).mono ?_
  rintro e w4 ⟨rfl, m4, hdk4, hdt4⟩
  have HD4 := Lib.hid hdk4
  have HT4 : Hid (DT w m w4 m4) := jz (HDT.out.trans hdt4)
  clear hdk4 hdt4
  go_wp2_with fail
  go_ret
  exact ⟨by rw [HF.out.1, ← syncE_val]; rfl, m4, by rw [HF.out.2]; exact HD4.out, HT4.out⟩
end Go.Proofs.YtillkpjflcgkeaaGreat
