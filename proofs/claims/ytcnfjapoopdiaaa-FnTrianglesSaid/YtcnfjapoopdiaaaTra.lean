/- Walks: the opposite of a point, the slope of a line. -/
import Derived.Test.YtcnfjapoopdiaaaCurve
import Derived.Test.YtcnfjapoopdiaaaStepPlain
import Derived.Test.YtcnfjapoopdiaaaChain
import Derived.StillTactics
import Derived.BigRegion
import Derived.Deep.Cut
namespace Go.Proofs.Ytcnfjapoopdiaaa
open Go.RowKit

def PtIn (X Y E : Int) : Prop := (-10000 ≤ X ∧ X ≤ 10000) ∧ (-3000000 ≤ Y ∧ Y ≤ 3000000) ∧ (0 ≤ E ∧ E ≤ 20)
def slN (A X1 Y1 E1 X2 Y2 E2 : Int) : Int := if X1 = X2 ∧ Y1 = Y2 ∧ E1 = E2 then 3 * X1 * X1 + A * E1 * E1 * E1 * E1 else Y2 * E1 * E1 * E1 - Y1 * E2 * E2 * E2
def slD (X1 Y1 E1 X2 Y2 E2 : Int) : Int := if X1 = X2 ∧ Y1 = Y2 ∧ E1 = E2 then 2 * Y1 * E1 else E1 * E2 * (X2 * E1 * E1 - X1 * E2 * E2)
theorem cub_bd {x e : Int} (b : Int) (hx : -b ≤ x ∧ x ≤ b) (he : 0 ≤ e ∧ e ≤ 20) : (-(b * 20) ≤ x * e ∧ x * e ≤ b * 20) ∧ (-(b * 400) ≤ x * e * e ∧ x * e * e ≤ b * 400) ∧ (-(b * 8000) ≤ x * e * e * e ∧ x * e * e * e ≤ b * 8000) ∧ (-(b * 160000) ≤ x * e * e * e * e ∧ x * e * e * e * e ≤ b * 160000) := by
  have h1 := mulb (x := x) (y := e) b 20 hx (by omega)
  have h2 := mulb (x := x * e) (y := e) (b * 20) 20 (by omega) (by omega)
  have h3 := mulb (x := x * e * e) (y := e) (b * 400) 20 (by omega) (by omega)
  have h4 := mulb (x := x * e * e * e) (y := e) (b * 8000) 20 (by omega) (by omega)
  omega
end Go.Proofs.Ytcnfjapoopdiaaa
