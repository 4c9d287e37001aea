/- Slices of ints that are read: eq. (The same stands in PairI.) -/
import Derived.Test.YtilgeeaobdebhaaList
import Derived.BigQuiet
namespace Go.Proofs.Ytilgeeaobdebhaa
open Go.RowKit

def RdI (w : World) (v : Value) (xs : List Int) : Prop := ∃ (a : Option Addr) (cap : Nat), v = .slice a xs.length cap ∧ ∀ i, i < xs.length → ∃ g o, a = some ⟨g, o, none⟩ ∧ w.cell? ⟨g, o + i, none⟩ = some (.int .i64 (xs[i]?.getD 0)) ∧ g < w.heap.size
end Go.Proofs.Ytilgeeaobdebhaa
