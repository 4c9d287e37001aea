/- Walks: whole numbers as fractions, comparison, quotients; the sides of triangles. -/
import Derived.Test.YtahjlgbhgaeioaaDoorCalc
namespace Go.Proofs.YtahjlgbhgaeioaaDoor
open Go.RowKit

theorem c_frLess (n d m e : Int) (hA : frOk n d = true) (hB : frOk m e = true) (w : World) :
    Calls Tryd.prog 37 #[.agg #[.int .i64 n, .int .i64 d], .agg #[.int .i64 m, .int .i64 e]] w fun r w' => r = .returned (.bool (decide (n * e < m * d))) ∧ Below w.heap.size w w' := by
  obtain ⟨hd, hn⟩ := frOk_of hA
  obtain ⟨he, hm⟩ := frOk_of hB
  obtain ⟨b1, b2, b3, b4, b5⟩ := fr_bd hn hd hm he
  go_enter Tryd.func37, Tryd.ntmps37
  go_wp2
  go_ret
  refine ⟨rfl, ?_⟩
  (repeat' (first | (with_reducible exact Below.refl _ _) | (with_reducible refine below_step (by assumption) ?_ ?_) | (with_reducible refine Below.alloc ?_ ?_ _) | (with_reducible refine Below.setCell ?_ ?_ _) | (with_reducible refine below_drewN ?_ _) | (with_reducible refine Below.drew ?_) | omega | (simp; omega) | (simp; done)))
theorem c_IsLess (n d m e : Int) (hA : frOk n d = true) (hB : frOk m e = true) (w : World) :
    Calls Tryd.prog 49 #[.agg #[.int .i64 n, .int .i64 d], .agg #[.int .i64 m, .int .i64 e]] w fun r w' => r = .returned (.tuple #[.bool (decide (n * e < m * d)), .bool true]) ∧ Below w.heap.size w w' := by
  obtain ⟨hd, hn⟩ := frOk_of hA
  obtain ⟨he, hm⟩ := frOk_of hB
  obtain ⟨b1, b2, b3, b4, b5⟩ := fr_bd hn hd hm he
  have hx : Bx w.heap.size (.int .i64 n) (.int .i64 d) ((w.alloc (.cells #[.int .i64 n, .int .i64 d] 27)).alloc (.cells #[.int .i64 m, .int .i64 e] 27)) := ⟨by simp [go_sem], by simp [go_sem], by simp [go_sem], by simp [go_sem], by simp; omega⟩
  have hy : Bx (w.heap.size + 1) (.int .i64 m) (.int .i64 e) ((w.alloc (.cells #[.int .i64 n, .int .i64 d] 27)).alloc (.cells #[.int .i64 m, .int .i64 e] 27)) := ⟨by simp [go_sem], by simp [go_sem], by simp [go_sem], by simp [go_sem], by simp⟩
  go_enter Tryd.func49, Tryd.ntmps49
  go_wp2_with fail
  (go_at_call 48; refine (c_isFraction _ _ _).mono ?_; rintro e w1 ⟨rfl, hb1⟩; obtain ⟨hc1, hf1⟩ := bcell hb1; have hz1 := hb1.size; (try simp only [World.size_alloc] at hz1); (try (have hy1 : w.heap.size < w1.heap.size := by omega)); (try (have hx1 := Nat.lt_of_succ_le hz1)); (try (have hv1 := Nat.lt_of_succ_le (Nat.le_of_lt hx1))))
  go_wp2_with fail
  (go_at_call 48; refine (c_isFraction _ _ _).mono ?_; rintro e w2 ⟨rfl, hb2⟩; obtain ⟨hc2, hf2⟩ := bcell hb2; have hz2 := hb2.size; (try simp only [World.size_alloc] at hz2); (try (have hy2 : w.heap.size < w2.heap.size := by omega)); (try (have hx2 := Nat.lt_of_succ_le hz2)); (try (have hv2 := Nat.lt_of_succ_le (Nat.le_of_lt hx2))); (try (have hy2_1 : w1.heap.size < w2.heap.size := by omega)))
  obtain ⟨x1, x2, _, _, _⟩ := (hx.below hb1).below hb2
  obtain ⟨y1, y2, _, _, _⟩ := (hy.below hb1).below hb2
  go_wp2
  go_ret2
  refine ⟨rfl, ?_⟩
  (repeat' (first | (with_reducible exact Below.refl _ _) | (with_reducible refine below_step (by assumption) ?_ ?_) | (with_reducible refine Below.alloc ?_ ?_ _) | (with_reducible refine Below.setCell ?_ ?_ _) | (with_reducible refine below_drewN ?_ _) | (with_reducible refine Below.drew ?_) | omega | (simp; omega) | (simp; done)))
/-! triangles: three fractions -/
def triV (p q r s t u : Int) : Value := .agg #[.int .i64 p, .int .i64 q, .int .i64 r, .int .i64 s, .int .i64 t, .int .i64 u]
def triOk (p q r s t u : Int) : Bool := frOk p q && frOk r s && frOk t u
end Go.Proofs.YtahjlgbhgaeioaaDoor
