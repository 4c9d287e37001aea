/- Rows: an argument that is a slice of steps, opened. -/
import Derived.Test.YtpnpidepkfnofaaGreatDoorRow
import Derived.Deep.SlicePairs
import Derived.WideKeyArgs
namespace Go.Proofs.YtpnpidepkfnofaaGreatDoor
open Go.ChangeShapes Go.WideShapes Go.ChangeAt Go.RowKit Go.Joins

/-- a slice value that came in and reads as a list of pairs -/
def RdP (w : World) (v : Value) (xs : List (Int × Int)) : Prop := ∃ (a : Option Addr) (cap : Nat), v = .slice a xs.length cap ∧ xs.length ≤ maxLen ∧
  ∀ i (_ : i < xs.length), ∃ g o, a = some ⟨g, o, none⟩ ∧ w.cell? ⟨g, o + i * 2, none⟩ = some (.int .i64 xs[i].1) ∧ w.cell? ⟨g, o + i * 2 + 1, none⟩ = some (.int .i64 xs[i].2) ∧ g < w.heap.size
theorem RdP.below {w w1 : World} {v : Value} {xs : List (Int × Int)} (h : RdP w v xs) (hb : Below w.heap.size w w1) : RdP w1 v xs := by
  obtain ⟨a, cap, hv, hm, hc⟩ := h
  refine ⟨a, cap, hv, hm, fun i hi => ?_⟩
  obtain ⟨g, o, ha, h1, h2, h3⟩ := hc i hi
  exact ⟨g, o, ha, (hb.cell (p := ⟨g, o + i * 2, none⟩) h3).trans h1, (hb.cell (p := ⟨g, o + i * 2 + 1, none⟩) h3).trans h2, Nat.lt_of_lt_of_le h3 hb.size⟩
end Go.Proofs.YtpnpidepkfnofaaGreatDoor
