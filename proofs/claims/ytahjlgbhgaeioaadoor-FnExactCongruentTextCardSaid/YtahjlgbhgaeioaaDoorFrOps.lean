/- Walks: sums, products, quotients of fractions. -/
import Derived.Test.YtahjlgbhgaeioaaDoorFrac
namespace Go.Proofs.YtahjlgbhgaeioaaDoor
open Go.RowKit

theorem fr_bd {n d m e : Int} (hn : -1000000000 ≤ n ∧ n ≤ 1000000000) (hd : 1 ≤ d ∧ d ≤ 1000000000) (hm : -1000000000 ≤ m ∧ m ≤ 1000000000) (he : 1 ≤ e ∧ e ≤ 1000000000) :
    (-1000000000000000000 ≤ n * e ∧ n * e ≤ 1000000000000000000) ∧ (-1000000000000000000 ≤ m * d ∧ m * d ≤ 1000000000000000000) ∧ (1 ≤ d * e ∧ d * e ≤ 1000000000000000000) ∧ (-1000000000000000000 ≤ n * m ∧ n * m ≤ 1000000000000000000) ∧ (-1000000000000000000 ≤ d * m ∧ d * m ≤ 1000000000000000000) := by
  have h1 := mulb (x := n) (y := e) 1000000000 1000000000 hn (by omega)
  have h2 := mulb (x := m) (y := d) 1000000000 1000000000 hm (by omega)
  have h3 := mulb (x := d) (y := e) 1000000000 1000000000 (by omega) (by omega)
  have h4 := mulb (x := n) (y := m) 1000000000 1000000000 hn hm
  have h5 := mulb (x := d) (y := m) 1000000000 1000000000 (by omega) hm
  have h6 := Int.mul_le_mul hd.1 he.1 (by omega) (by omega)
  omega
end Go.Proofs.YtahjlgbhgaeioaaDoor
