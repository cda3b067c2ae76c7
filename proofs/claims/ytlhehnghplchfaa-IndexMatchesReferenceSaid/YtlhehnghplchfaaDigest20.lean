/- tolllaw20.digest, and the operations that came in. -/
import Derived.Test.YtlhehnghplchfaaOpenE
namespace Go.Proofs.Ytlhehnghplchfaa
open Go.RowKit Go.ChangeShapes Go.WideShapes Go.Deep

def dg (c : Nat) : List Int := (c : Int) / 3 :: (List.replicate 30 0 ++ [(c : Int) % 3])
theorem dg_ok (c : Nat) (h : c ≤ 255) : DigOk (dg c) := ⟨by simp [dg], fun b hb => by
  simp only [dg, List.mem_cons, List.mem_append, List.mem_replicate, List.mem_nil_iff, or_false] at hb
  omega⟩

set_option maxHeartbeats 1000000 in
theorem digest_any (c : Nat) (w : World) (hc : c ≤ 255) :
    Calls Try.prog 9 #[.int .u8 c] w fun e w' => e = .returned (.agg (u8s (dg c)).toArray) ∧ Below w.heap.size w w' := by
  have hu : #[Value.int .u8 ((c : Int) / 3), .int .u8 0, .int .u8 0, .int .u8 0, .int .u8 0, .int .u8 0, .int .u8 0, .int .u8 0, .int .u8 0, .int .u8 0, .int .u8 0, .int .u8 0, .int .u8 0, .int .u8 0, .int .u8 0, .int .u8 0, .int .u8 0, .int .u8 0, .int .u8 0, .int .u8 0, .int .u8 0, .int .u8 0, .int .u8 0, .int .u8 0, .int .u8 0, .int .u8 0, .int .u8 0, .int .u8 0, .int .u8 0, .int .u8 0, .int .u8 0, .int .u8 ((c : Int) % 3)] = (u8s (dg c)).toArray := rfl
  have HU := Lib.hid hu
  clear hu
  have h1 := u8s_one (dg c)
  have h32 : (u8s (dg c)).length = 32 := by simp [u8s, (dg_ok c hc).len]
  go_enter Try.func9, Try.ntmps9
  go_wp2_with (refine stNew (cells := (u8s (dg c)).toArray) 26 (.tmp 2) (.tmp 7) rfl rfl rfl (congrArg Value.agg HU.out) (by simp only [List.size_toArray, h32]; kernel_rfl) (by simp only [List.size_toArray, h32] <;> rfl) h1 ?_; intro w1 hblk hb1 hs1)
  refine bodyPost_ret (results_cell_row rfl _ _ w.heap.size 26 _ (0, 0) _ rfl hblk Try.underlying26 rfl (by simp only [List.size_toArray, h32]; kernel_rfl)) rfl ⟨rfl, hb1⟩
end Go.Proofs.Ytlhehnghplchfaa
