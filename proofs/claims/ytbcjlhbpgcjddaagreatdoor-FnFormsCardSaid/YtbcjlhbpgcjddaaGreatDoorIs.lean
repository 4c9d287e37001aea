/- Walks: right triangles of a given area. -/
import Derived.Test.YtbcjlhbpgcjddaaGreatDoorCalcB
namespace Go.Proofs.YtbcjlhbpgcjddaaGreatDoor
open Go.RowKit

def isB (n p t U5 V5 U3 V3 U4 V4 : Int) (L : Bool) : Bool := decide (0 < p) && L && decide (0 < t) && (U5 == U3 && V5 == V3) && (U4 == 2 * n && V4 == 1)
end Go.Proofs.YtbcjlhbpgcjddaaGreatDoor
