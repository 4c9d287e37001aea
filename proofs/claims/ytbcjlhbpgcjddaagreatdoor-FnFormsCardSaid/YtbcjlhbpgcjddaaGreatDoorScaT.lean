/- Walks: ScaledTriangle, FirstTriangle. -/
import Derived.Test.YtbcjlhbpgcjddaaGreatDoorScal
namespace Go.Proofs.YtbcjlhbpgcjddaaGreatDoor
open Go.RowKit

theorem areaB_bd {n : Int} (h : areaB n = true) : 1 ≤ n ∧ n ≤ 31 := by
  unfold areaB at h
  simp only [Bool.and_eq_true] at h
  exact inB_true h.1
theorem scV_form (n u v : Int) : ∃ p q r s t u' : Int, scV n u v = .agg #[.int .i64 p, .int .i64 q, .int .i64 r, .int .i64 s, .int .i64 t, .int .i64 u'] := by
  unfold scV
  split
  · exact ordV_form _ _ _ _ _ _
  · exact ⟨0, 0, 0, 0, 0, 0, rfl⟩
noncomputable def stB (n u v : Int) : Bool := areaB n && inB u 1 100 && inB v 1 (u - 1)
noncomputable def stV (n u v : Int) : Value := if stB n u v then scV n u v else tri0
theorem st_no {w w' : World} {n u v : Int} (h : stB n u v = false) (hb : Below w.heap.size w w') : TriPost w (stV n u v) (stB n u v && scB n u v) (.returned (.tuple #[.agg #[.int .i64 0, .int .i64 0, .int .i64 0, .int .i64 0, .int .i64 0, .int .i64 0], .bool false])) w' := by
  unfold stV; rw [h]; exact ⟨rfl, hb⟩
theorem st_yes {w w' : World} {n u v p1 p2 p3 p4 p5 p6 : Int} {b : Bool} (h : stB n u v = true) (hV : scV n u v = .agg #[.int .i64 p1, .int .i64 p2, .int .i64 p3, .int .i64 p4, .int .i64 p5, .int .i64 p6]) (hb2 : scB n u v = b) (hb : Below w.heap.size w w') : TriPost w (stV n u v) (stB n u v && scB n u v) (.returned (.tuple #[.agg #[.int .i64 p1, .int .i64 p2, .int .i64 p3, .int .i64 p4, .int .i64 p5, .int .i64 p6], .bool b])) w' := by
  unfold stV; rw [h, if_pos rfl, hV, hb2]; exact ⟨rfl, hb⟩
theorem stV_form (n u v : Int) : ∃ p q r s t u' : Int, stV n u v = .agg #[.int .i64 p, .int .i64 q, .int .i64 r, .int .i64 s, .int .i64 t, .int .i64 u'] := by
  unfold stV
  split
  · exact scV_form _ _ _
  · exact ⟨0, 0, 0, 0, 0, 0, rfl⟩
end Go.Proofs.YtbcjlhbpgcjddaaGreatDoor
