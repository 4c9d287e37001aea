/- Walks: the law of PointOfTriangle. -/
import Derived.Test.YtahjlgbhgaeioaaPotB
import Derived.Test.YtahjlgbhgaeioaaIsLaw
namespace Go.Proofs.Ytahjlgbhgaeioaa
open Go.RowKit

set_option maxHeartbeats 2000000 in
theorem c_eqPoint (a b c : Int) (w : World) :
    Calls Try.prog 7 #[.agg #[.int .i64 a, .int .i64 b, .int .i64 c], .agg #[.int .i64 a, .int .i64 b, .int .i64 c]] w fun e w' => e = .returned (.bool true) ∧ Below w.heap.size w w' := by
  go_enter Try.func7, Try.ntmps7
  go_wp2
  all_goals
    go_ret
    refine ⟨rfl, ?_⟩
    go_grown
set_option maxHeartbeats 4000000 in
theorem walk_FnExactPointOfTriangle (n p q r s t u : Int) (_ : (Lit.int .i64 n).wf = true) (_ : (Lit.int .i64 p).wf = true) (_ : (Lit.int .i64 q).wf = true) (_ : (Lit.int .i64 r).wf = true) (_ : (Lit.int .i64 s).wf = true) (_ : (Lit.int .i64 t).wf = true) (_ : (Lit.int .i64 u).wf = true) (w : World) :
    Calls Try.prog 3 #[.int .i64 n, .agg #[.int .i64 p, .int .i64 q, .int .i64 r, .int .i64 s, .int .i64 t, .int .i64 u]] w fun e w' => e = .returned (.bool true) ∧ Below w.heap.size w w' := by
  obtain ⟨a, b, c, o, h1, h2⟩ := pot_all n p q r s t u
  have H1 := Lib.hid h1
  have H2 := Lib.hid h2
  clear h1 h2
  have kb := Blk.new w #[.int .i64 p, .int .i64 q, .int .i64 r, .int .i64 s, .int .i64 t, .int .i64 u] 25
  have hB0 : Below w.heap.size w (w.alloc (.cells #[.int .i64 p, .int .i64 q, .int .i64 r, .int .i64 s, .int .i64 t, .int .i64 u] 25)) := by (repeat' (first | (with_reducible exact Below.refl _ _) | (with_reducible refine below_step (by assumption) ?_ ?_) | (with_reducible refine Below.alloc ?_ ?_ _) | (with_reducible refine Below.setCell ?_ ?_ _) | (with_reducible refine below_drewN ?_ _) | (with_reducible refine Below.drew ?_) | omega | (simp; omega) | (simp; done)))
  cases o
  all_goals
    go_enter Try.func3, Try.ntmps3
    go_wp2_with fail
    generalize w.alloc _ = W0 at *
    have kb0 : (W0).cell? ⟨w.heap.size, 0, none⟩ = some (.int .i64 p) := kb.cell 0; have kb1 : (W0).cell? ⟨w.heap.size, 1, none⟩ = some (.int .i64 q) := kb.cell 1; have kb2 : (W0).cell? ⟨w.heap.size, 2, none⟩ = some (.int .i64 r) := kb.cell 2; have kb3 : (W0).cell? ⟨w.heap.size, 3, none⟩ = some (.int .i64 s) := kb.cell 3; have kb4 : (W0).cell? ⟨w.heap.size, 4, none⟩ = some (.int .i64 t) := kb.cell 4; have kb5 : (W0).cell? ⟨w.heap.size, 5, none⟩ = some (.int .i64 u) := kb.cell 5; have kbl : w.heap.size < (W0).heap.size := kb.lt
    go_wp2_with fail
    refine (c_toTriangle _ _ _ _ _ _ _).mono ?_
    rintro e w1 ⟨rfl, hb1⟩
    have kb1 := kb.next hb1
    have hB1 := below_step hb1 hB0.size hB0
    go_wp2_with fail
    refine (H1.out _).mono ?_
    rintro e w2 ⟨rfl, hb2⟩
    have kb2 := (kb1.next hb2).alloc (.cells #[.int .i64 a, .int .i64 b, .int .i64 c] 27)
    have hB2 := below_step hb2 hB1.size hB1
    have k1 := Blk.new w2 #[.int .i64 a, .int .i64 b, .int .i64 c] 27
    have hB3 := hB2.alloc hB2.size (.cells #[.int .i64 a, .int .i64 b, .int .i64 c] 27)
    go_upto_region 2 with (fail)
    generalize w2.alloc _ = W2 at *
    generalize w2.heap.size = r5 at *
    have kb20 : (W2).cell? ⟨w.heap.size, 0, none⟩ = some (.int .i64 p) := kb2.cell 0; have kb21 : (W2).cell? ⟨w.heap.size, 1, none⟩ = some (.int .i64 q) := kb2.cell 1; have kb22 : (W2).cell? ⟨w.heap.size, 2, none⟩ = some (.int .i64 r) := kb2.cell 2; have kb23 : (W2).cell? ⟨w.heap.size, 3, none⟩ = some (.int .i64 s) := kb2.cell 3; have kb24 : (W2).cell? ⟨w.heap.size, 4, none⟩ = some (.int .i64 t) := kb2.cell 4; have kb25 : (W2).cell? ⟨w.heap.size, 5, none⟩ = some (.int .i64 u) := kb2.cell 5; have kb2l : w.heap.size < (W2).heap.size := kb2.lt
    go_wp2_with fail
    refine (c_toTriangle _ _ _ _ _ _ _).mono ?_
    rintro e w4 ⟨rfl, hb4⟩
    have k4 := k1.next hb4
    have hB4 := below_step hb4 hB3.size hB3
    go_wp2_with fail
    refine (H2.out _).mono ?_
    rintro e w5 ⟨rfl, hb5⟩
    have k5 := k4.next hb5
    have hB5 := below_step hb5 hB4.size hB4
    have k50 : (w5).cell? ⟨r5, 0, none⟩ = some (.int .i64 a) := k5.cell 0; have k51 : (w5).cell? ⟨r5, 1, none⟩ = some (.int .i64 b) := k5.cell 1; have k52 : (w5).cell? ⟨r5, 2, none⟩ = some (.int .i64 c) := k5.cell 2; have k5l : r5 < (w5).heap.size := k5.lt
    go_wp2_with fail
    (go_at_call 7; refine (c_eqPoint _ _ _ _).mono ?_; rintro e w6 ⟨rfl, hb6⟩; obtain ⟨hc6, hf6⟩ := bcell hb6; have hz6 := hb6.size; (try simp only [World.size_alloc] at hz6); (try (have hy6 : w.heap.size < w6.heap.size := by omega)); (try (have hx6 := Nat.lt_of_succ_le hz6)); (try (have hv6 := Nat.lt_of_succ_le (Nat.le_of_lt hx6))); (try (have hy6_1 : w1.heap.size < w6.heap.size := by omega)); (try (have hy6_2 : w2.heap.size < w6.heap.size := by omega)); (try (have hy6_3 : w3.heap.size < w6.heap.size := by omega)); (try (have hy6_4 : w4.heap.size < w6.heap.size := by omega)); (try (have hy6_5 : w5.heap.size < w6.heap.size := by omega)))
    have hs5 := hB5.size
    go_wp2
    go_ret
    refine ⟨rfl, ?_⟩
    (repeat' (first | (with_reducible exact Below.refl _ _) | (with_reducible refine below_step (by assumption) ?_ ?_) | (with_reducible refine Below.alloc ?_ ?_ _) | (with_reducible refine Below.setCell ?_ ?_ _) | (with_reducible refine below_drewN ?_ _) | (with_reducible refine Below.drew ?_) | omega | (simp; omega) | (simp; done)))
end Go.Proofs.Ytahjlgbhgaeioaa
