/- Walks: curves and points drawn (anyCurve, pointed). -/
import Derived.Test.YtpnpidepkfnofaaGreatDoorDrC
namespace Go.Proofs.YtpnpidepkfnofaaGreatDoor
open Go.RowKit

section
variable {B k n : Nat} {v : Value} {xs : List Int} {w0 w : World} {bl : List (Nat × Array Value × TypeId)}
def In64 (a b : Int) : Prop := (-9223372036854775808 ≤ a ∧ a ≤ 9223372036854775807) ∧ (-9223372036854775808 ≤ b ∧ b ≤ 9223372036854775807)
theorem in64_of {a b : Int} (h : curveB a b = true) : In64 a b := by
  unfold curveB at h
  simp only [Bool.and_eq_true] at h
  have h1 := inB_true h.1.1
  have h2 := inB_true h.1.2
  unfold In64
  omega
set_option maxHeartbeats 1000000 in
theorem d_anyCurve (d : Dr B k v xs n w0 bl w) (hn : n ≤ 600000) : Calls Tryz.prog 72 #[.pointer (some ⟨k, 0, none⟩)] w (CurveD B k v xs (n + 40) w0 bl In64) := by
  have d1 := d.alloc #[.int .i64 0, .int .i64 0] 33
  go_enter Tryz.func72, Tryz.ntmps72
  go_upto_region 1 with (fail)
  generalize w.alloc _ = W at d1 ⊢
  generalize w.heap.size = S at d1 ⊢
  go_wp2_with fail
  refine (d_curve d1 (by omega)).mono ?_
  rintro e w2 ⟨a, b, rfl, hab, d2⟩
  have d3 := d2.alloc #[.int .i64 a, .int .i64 b] 33
  have hi := in64_of hab
  clear d1 d2 hab
  go_wp2_with fail
  generalize w2.alloc _ = W3 at d3 ⊢
  generalize w2.heap.size = E at d3 ⊢
  refine (d_pick d3 (by omega) 30 (by omega)).mono ?_
  rintro e w4 ⟨x, rfl, hx, d4⟩
  clear d3
  by_cases h0 : x = 0
  · subst h0
    go_wp2_with fail
    refine (d_among d4 (by omega) [-1001, -1000, 1000, 1001, -9223372036854775808] (by simp)).mono ?_
    rintro e w5 ⟨y, rfl, hy, d5⟩
    have hy' : -9223372036854775808 ≤ y ∧ y ≤ 9223372036854775807 := by simp at hy; omega
    obtain ⟨c0, _, z0, _⟩ := d5.two
    have d6 := d5.s0 (.int .i64 y)
    go_upto_region 9 with (fail)
    generalize w5.setCell _ _ = W5 at d6 ⊢
    have e2 := d6.swap.s01 (.int .i64 y) (.int .i64 b)
    obtain ⟨c0, c1, _, _⟩ := d6.two
    obtain ⟨y0, y1, z0, z1⟩ := d6.swap.two
    go_wp2
    generalize (World.setCell (World.setCell _ _ _) _ _) = w6 at e2 ⊢
    obtain ⟨q0, q1, _, _⟩ := e2.two
    refine bodyPost_ret (v := .agg #[.int .i64 y, .int .i64 b]) (by simp [results, Tryz.results72, go_sem, q0, q1]) rfl ?_
    exact ⟨_, _, rfl, ⟨hy', hi.2⟩, e2.tail.tail.le (by omega)⟩
  · by_cases h1 : x = 1
    · subst h1
      go_wp2_with fail
      refine (d_among d4 (by omega) [-10001, -10000, 10000, 10001, 9223372036854775807] (by simp)).mono ?_
      rintro e w5 ⟨y, rfl, hy, d5⟩
      have hy' : -9223372036854775808 ≤ y ∧ y ≤ 9223372036854775807 := by simp at hy; omega
      obtain ⟨_, c1, _, z1⟩ := d5.two
      have d6 := d5.s1 (.int .i64 y)
      go_upto_region 9 with (fail)
      generalize w5.setCell _ _ = W5 at d6 ⊢
      have e2 := d6.swap.s01 (.int .i64 a) (.int .i64 y)
      obtain ⟨c0, c1, _, _⟩ := d6.two
      obtain ⟨y0, y1, z0, z1⟩ := d6.swap.two
      go_wp2
      generalize (World.setCell (World.setCell _ _ _) _ _) = w6 at e2 ⊢
      obtain ⟨q0, q1, _, _⟩ := e2.two
      refine bodyPost_ret (v := .agg #[.int .i64 a, .int .i64 y]) (by simp [results, Tryz.results72, go_sem, q0, q1]) rfl ?_
      exact ⟨_, _, rfl, ⟨hi.1, hy'⟩, e2.tail.tail.le (by omega)⟩
    · by_cases h2 : x = 2
      · subst h2
        go_wp2_with fail
        refine (d_among d4 (by omega) [0, -3, -12] (by simp)).mono ?_
        rintro e w5 ⟨y, rfl, hy, d5⟩
        go_wp2_with fail
        refine (d_among d5 (by omega) [0, 2, 16] (by simp)).mono ?_
        rintro e w6 ⟨z, rfl, hz, d6⟩
        have hy' : -9223372036854775808 ≤ y ∧ y ≤ 9223372036854775807 := by simp at hy; omega
        have hz' : -9223372036854775808 ≤ z ∧ z ≤ 9223372036854775807 := by simp at hz; omega
        obtain ⟨c0, c1, z0, z1⟩ := d6.two
        have d7 := d6.s01 (.int .i64 y) (.int .i64 z)
        go_upto_region 9 with (fail)
        generalize (w6.setCell _ _).setCell _ _ = W6 at d7 ⊢
        have e2 := d7.swap.s01 (.int .i64 y) (.int .i64 z)
        obtain ⟨c0, c1, _, _⟩ := d7.two
        obtain ⟨y0, y1, z0, z1⟩ := d7.swap.two
        go_wp2
        generalize (World.setCell (World.setCell _ _ _) _ _) = w6 at e2 ⊢
        obtain ⟨q0, q1, _, _⟩ := e2.two
        refine bodyPost_ret (v := .agg #[.int .i64 y, .int .i64 z]) (by simp [results, Tryz.results72, go_sem, q0, q1]) rfl ?_
        exact ⟨_, _, rfl, ⟨hy', hz'⟩, e2.tail.tail.le (by omega)⟩
      · have e2 := d4.swap.s01 (.int .i64 a) (.int .i64 b)
        obtain ⟨c0, c1, _, _⟩ := d4.two
        obtain ⟨y0, y1, z0, z1⟩ := d4.swap.two
        go_wp2
        generalize (World.setCell (World.setCell _ _ _) _ _) = w6 at e2 ⊢
        obtain ⟨q0, q1, _, _⟩ := e2.two
        refine bodyPost_ret (v := .agg #[.int .i64 a, .int .i64 b]) (by simp [results, Tryz.results72, go_sem, q0, q1]) rfl ?_
        exact ⟨_, _, rfl, hi, e2.tail.tail.le (by omega)⟩
end
end Go.Proofs.YtpnpidepkfnofaaGreatDoor
