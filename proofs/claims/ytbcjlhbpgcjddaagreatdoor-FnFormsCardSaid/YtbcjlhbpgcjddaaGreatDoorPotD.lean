/- Plain: the answer of PointOfTriangle. -/
import Derived.Test.YtbcjlhbpgcjddaaGreatDoorVl
namespace Go.Proofs.YtbcjlhbpgcjddaaGreatDoor
open Go.RowKit

def potP (w : World) (a b c : Int) (o : Bool) (x : Ending) (w' : World) : Prop := x = .returned (.tuple #[if o then .agg #[.int .i64 a, .int .i64 b, .int .i64 c] else .agg #[.int .i64 0, .int .i64 0, .int .i64 0], .bool o]) ∧ Below w.heap.size w w'
theorem potP_no {w w' : World} {a b c : Int} {o : Bool} (h : o = false) (hb : Below w.heap.size w w') : potP w a b c o (.returned (.tuple #[.agg #[.int .i64 0, .int .i64 0, .int .i64 0], .bool false])) w' := by rw [h]; exact ⟨rfl, hb⟩
theorem potP_yes {w w' : World} {a b c : Int} {o : Bool} (h : o = true) (hb : Below w.heap.size w w') : potP w a b c o (.returned (.tuple #[.agg #[.int .i64 a, .int .i64 b, .int .i64 c], .bool true])) w' := by rw [h]; exact ⟨rfl, hb⟩
theorem neB {x y : Int} {b : Bool} (h : (x == y) = b) : (x != y) = !b := by unfold bne; rw [h]
end Go.Proofs.YtbcjlhbpgcjddaaGreatDoor
