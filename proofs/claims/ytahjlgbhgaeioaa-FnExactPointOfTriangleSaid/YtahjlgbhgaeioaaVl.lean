/- Walks: the reference's test of a triangle. -/
import Derived.Test.YtahjlgbhgaeioaaIsLaw
namespace Go.Proofs.Ytahjlgbhgaeioaa
open Go.RowKit

noncomputable def vlB (n p q r s t u : Int) : Bool := itOk n p q r s t u && tIs n p q r s t u
theorem c_cnValid (n p q r s t u : Int) (w : World) :
    Calls Try.prog 8 #[.int .i64 n, .agg #[.int .i64 p, .int .i64 q, .int .i64 r, .int .i64 s, .int .i64 t, .int .i64 u]] w fun e w' => e = .returned (.bool (vlB n p q r s t u)) ∧ Below w.heap.size w w' := by
  have hc := fun w => c_sIsTriangle n p q r s t u w
  unfold vlB
  generalize itOk n p q r s t u = o at *
  generalize tIs n p q r s t u = i at *
  have HC := Lib.hid hc
  clear hc
  cases o <;> cases i
  all_goals
    go_enter Try.func8, Try.ntmps8
    go_wp2_with fail
    (go_at_call 27; refine (HC.out _).mono ?_; rintro e w1 ⟨rfl, hb1⟩; obtain ⟨hc1, hf1⟩ := bcell hb1; have hz1 := hb1.size; (try simp only [World.size_alloc] at hz1); (try (have hy1 : w.heap.size < w1.heap.size := by omega)); (try (have hx1 := Nat.lt_of_succ_le hz1)); (try (have hv1 := Nat.lt_of_succ_le (Nat.le_of_lt hx1))))
    go_wp2
    go_ret
    refine ⟨rfl, ?_⟩
    (repeat' (first | (with_reducible exact Below.refl _ _) | (with_reducible refine below_step (by assumption) ?_ ?_) | (with_reducible refine Below.alloc ?_ ?_ _) | (with_reducible refine Below.setCell ?_ ?_ _) | (with_reducible refine below_drewN ?_ _) | (with_reducible refine Below.drew ?_) | omega | (simp; omega) | (simp; done)))
end Go.Proofs.Ytahjlgbhgaeioaa
