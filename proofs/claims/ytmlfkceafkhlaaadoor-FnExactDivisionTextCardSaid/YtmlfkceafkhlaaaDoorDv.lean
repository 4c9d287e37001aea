/- Walks: rows of division values. -/
import Derived.Test.YtmlfkceafkhlaaaDoorDivA
import Derived.Test.YtmlfkceafkhlaaaDoorDvPlain
import Derived.Test.YtmlfkceafkhlaaaDoorApp
namespace Go.Proofs.YtmlfkceafkhlaaaDoor
open Go.RowKit

theorem pow_bd {e p : Int} (h0 : 0 ≤ e) (h1 : e < p) (hp : p ≤ 997) : (0 ≤ e * e ∧ e * e ≤ 994009) ∧ (0 ≤ e * e % p ∧ e * e % p < p) ∧ (0 ≤ e * e % p * e ∧ e * e % p * e ≤ 994009) := by
  have h2 := mulb (x := e) (y := e) 997 997 (by omega) (by omega)
  have h3 := Int.mul_nonneg h0 h0
  have h4 := mod_bd (e * e) p (by omega)
  have h5 := mulb (x := e * e % p) (y := e) 997 997 (by omega) (by omega)
  have h6 := Int.mul_nonneg h4.1 h0
  omega
theorem pr_bd {u v p : Int} (c : Int) (hc : 0 ≤ c) (hp : 1 ≤ p ∧ p ≤ 997) (hu : 0 ≤ u ∧ u < p) (hv : 0 ≤ v ∧ v < p) : (0 ≤ c * u * v ∧ c * u * v ≤ c * 994009) ∧ (0 ≤ c * u * v % p ∧ c * u * v % p < p) := by
  have h1 := mulb (x := u) (y := v) 997 997 (by omega) (by omega)
  have h2 := Int.mul_nonneg hu.1 hv.1
  have h3 := Int.mul_nonneg hc h2
  have h4 := Int.mul_le_mul_of_nonneg_left (show u * v ≤ 994009 by omega) hc
  have h5 := mod_bd (c * u * v) p (by omega)
  rw [Int.mul_assoc] at h5 ⊢
  omega
theorem pr_bd1 {u v p : Int} (hp : 1 ≤ p ∧ p ≤ 997) (hu : 0 ≤ u ∧ u < p) (hv : 0 ≤ v ∧ v < p) : (0 ≤ u * v ∧ u * v ≤ 994009) ∧ (0 ≤ u * v % p ∧ u * v % p < p) := by
  have := pr_bd 1 (by omega) hp hu hv
  simpa using this
end Go.Proofs.YtmlfkceafkhlaaaDoor
