/- The length of a line. -/
import Derived.Test.YtmaifldiondchaaDoorScrF
import Derived.Test.YtmaifldiondchaaDoorLine
namespace Go.Proofs.YtmaifldiondchaaDoor
theorem line_len (o : OpD) (hd : o.data.length ≤ 500) (hc : o.cuts.length ≤ 50) : (lineB o).length ≤ 3000 := by
  unfold lineB
  split
  · rename_i hr
    have hp := right_p hr
    have h1 := wordL_length o.kind
    have h2 := itoa_len o.n (by have := hp.n.1; omega) (by have := hp.n.1; omega)
    have h3 := cutsL_len o.cuts hp.cut o.cuts.length (Nat.le_refl _)
    rw [List.take_length] at h3
    have h4 := hexL_length o.data
    unfold lineL
    simp only [List.length_append]
    have h5 : (if numbered o.kind then 32 :: Lib.itoa o.n else []).length ≤ 21 := by split <;> simp <;> omega
    have h6 : (if o.data.isEmpty then [] else 32 :: hexL o.data).length ≤ 1001 := by split <;> simp <;> omega
    omega
  · simp
end Go.Proofs.YtmaifldiondchaaDoor
