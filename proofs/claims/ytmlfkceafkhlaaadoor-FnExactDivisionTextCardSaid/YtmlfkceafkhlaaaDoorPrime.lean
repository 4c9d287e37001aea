/- Walks: primes, inverses, symbols, good primes, table primes. -/
import Derived.Test.YtmlfkceafkhlaaaDoorCurve
namespace Go.Proofs.YtmlfkceafkhlaaaDoor
open Go.RowKit

theorem root_le {d n : Int} (hd : 0 ≤ d) (h : d * d ≤ n) (hn : n ≤ 1000000000000) : d ≤ 1000000 := by
  rcases Int.lt_or_le 1000000 d with h' | h'
  · have := Int.mul_le_mul (show (1000001 : Int) ≤ d by omega) (show (1000001 : Int) ≤ d by omega) (by omega) (by omega); omega
  · exact h'
noncomputable def goodP (A B p : Int) : Bool := inB p 5 997 && primeB p && !(disc A B % p == 0)
theorem disc_range {A B : Int} (hA : -1000 ≤ A ∧ A ≤ 1000) (hB : -10000 ≤ B ∧ B ≤ 10000) : -7000000000 ≤ disc A B ∧ disc A B ≤ 7000000000 := by
  have := disc_bd hA hB; unfold disc; omega
theorem tmod_bne (a p : Int) : (a.tmod p != 0) = !(a % p == 0) := by
  rw [Bool.eq_iff_iff]
  simp only [bne_iff_ne, ne_eq, Bool.not_eq_true', beq_eq_false_iff_ne]
  constructor
  · intro h e; exact h (Int.tmod_eq_zero_of_dvd (Int.dvd_of_emod_eq_zero e))
  · exact tmod_ne0
where tmod_ne0 {a p : Int} (h : a % p ≠ 0) : a.tmod p ≠ 0 := fun e => h (Int.emod_eq_zero_of_dvd (Int.dvd_of_tmod_eq_zero e))
end Go.Proofs.YtmlfkceafkhlaaaDoor
