/- Walks: the reference's test of a triangle. -/
import Derived.Test.YtbcjlhbpgcjddaaGreatDoorIsLaw
namespace Go.Proofs.YtbcjlhbpgcjddaaGreatDoor
open Go.RowKit

noncomputable def vlB (n p q r s t u : Int) : Bool := itOk n p q r s t u && tIs n p q r s t u
end Go.Proofs.YtbcjlhbpgcjddaaGreatDoor
