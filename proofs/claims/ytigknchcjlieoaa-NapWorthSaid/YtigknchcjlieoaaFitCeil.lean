/- Rounding up. -/
import Derived.Test.YtigknchcjlieoaaBase
namespace Go.Proofs.Ytigknchcjlieoaa.FitCeil
theorem ceil_le (x f t : Int) (hf : 1 ≤ f) : (x + (f - 1)) / f ≤ t ↔ x ≤ t * f := by
  have h1 : (x + (f - 1)) / f ≤ t ↔ (x + (f - 1)) / f < t + 1 := by omega
  rw [h1, Int.ediv_lt_iff_lt_mul (by omega), Int.add_mul]
  omega
end Go.Proofs.Ytigknchcjlieoaa.FitCeil
