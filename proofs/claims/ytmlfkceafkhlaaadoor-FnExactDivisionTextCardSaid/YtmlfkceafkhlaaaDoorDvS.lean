/- Walks: rows of division values, the reference's. -/
import Derived.Test.YtmlfkceafkhlaaaDoorDv
namespace Go.Proofs.YtmlfkceafkhlaaaDoor
open Go.RowKit

end Go.Proofs.YtmlfkceafkhlaaaDoor
