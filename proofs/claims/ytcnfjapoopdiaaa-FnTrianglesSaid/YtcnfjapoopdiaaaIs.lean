/- Walks: right triangles of a given area. -/
import Derived.Test.YtcnfjapoopdiaaaCalcB
namespace Go.Proofs.Ytcnfjapoopdiaaa
open Go.RowKit

def isB (n p t U5 V5 U3 V3 U4 V4 : Int) (L : Bool) : Bool := decide (0 < p) && L && decide (0 < t) && (U5 == U3 && V5 == V3) && (U4 == 2 * n && V4 == 1)
set_option maxHeartbeats 4000000 in
theorem c_cnIs_of (n p q r s t u U1 V1 U2 V2 U3 V3 U4 V4 U5 V5 : Int) (M1 M2 M3 M4 M5 L : Bool) (hn : 1 ≤ n ∧ n ≤ 31)
    (H1 : Hid (∀ w : World, Calls Try.prog 49 #[.agg #[.int .i64 p, .int .i64 q], .agg #[.int .i64 p, .int .i64 q]] w fun r w' => r = .returned (.tuple #[.agg #[.int .i64 U1, .int .i64 V1], .bool M1]) ∧ Below w.heap.size w w'))
    (H2 : Hid (∀ w : World, Calls Try.prog 49 #[.agg #[.int .i64 r, .int .i64 s], .agg #[.int .i64 r, .int .i64 s]] w fun r w' => r = .returned (.tuple #[.agg #[.int .i64 U2, .int .i64 V2], .bool M2]) ∧ Below w.heap.size w w'))
    (H3 : Hid (∀ w : World, Calls Try.prog 49 #[.agg #[.int .i64 t, .int .i64 u], .agg #[.int .i64 t, .int .i64 u]] w fun r w' => r = .returned (.tuple #[.agg #[.int .i64 U3, .int .i64 V3], .bool M3]) ∧ Below w.heap.size w w'))
    (H4 : Hid (∀ w : World, Calls Try.prog 49 #[.agg #[.int .i64 p, .int .i64 q], .agg #[.int .i64 r, .int .i64 s]] w fun r w' => r = .returned (.tuple #[.agg #[.int .i64 U4, .int .i64 V4], .bool M4]) ∧ Below w.heap.size w w'))
    (H5 : Hid (M1 = true → M2 = true → ∀ w : World, Calls Try.prog 48 #[.agg #[.int .i64 U1, .int .i64 V1], .agg #[.int .i64 U2, .int .i64 V2]] w fun r w' => r = .returned (.tuple #[.agg #[.int .i64 U5, .int .i64 V5], .bool M5]) ∧ Below w.heap.size w w'))
    (H6 : Hid (∀ w : World, Calls Try.prog 87 #[.agg #[.int .i64 p, .int .i64 q], .agg #[.int .i64 r, .int .i64 s]] w fun r w' => r = .returned (.bool L) ∧ Below w.heap.size w w')) (w : World) :
    Calls Try.prog 55 #[.int .i64 n, .agg #[.int .i64 p, .int .i64 q, .int .i64 r, .int .i64 s, .int .i64 t, .int .i64 u]] w fun e w' => e = .returned (.tuple #[.bool (M1 && M2 && M3 && M4 && M5 && isB n p t U5 V5 U3 V3 U4 V4 L), .bool (M1 && M2 && M3 && M4 && M5)]) ∧ Below w.heap.size w w' := by
  unfold isB
  go_enter Try.func55, Try.ntmps55
  go_wp2_with fail
  (go_at_call 49; refine (H1.out _).mono ?_; rintro e w1 ⟨rfl, hb1⟩; obtain ⟨hc1, hf1⟩ := bcell hb1; have hz1 := hb1.size; (try simp only [World.size_alloc] at hz1); (try (have hy1 : w.heap.size < w1.heap.size := by omega)); (try (have hx1 := Nat.lt_of_succ_le hz1)); (try (have hv1 := Nat.lt_of_succ_le (Nat.le_of_lt hx1))))
  go_wp2_with fail
  (go_at_call 49; refine (H2.out _).mono ?_; rintro e w2 ⟨rfl, hb2⟩; obtain ⟨hc2, hf2⟩ := bcell hb2; have hz2 := hb2.size; (try simp only [World.size_alloc] at hz2); (try (have hy2 : w.heap.size < w2.heap.size := by omega)); (try (have hx2 := Nat.lt_of_succ_le hz2)); (try (have hv2 := Nat.lt_of_succ_le (Nat.le_of_lt hx2))); (try (have hy2_1 : w1.heap.size < w2.heap.size := by omega)))
  go_wp2_with fail
  (go_at_call 49; refine (H3.out _).mono ?_; rintro e w3 ⟨rfl, hb3⟩; obtain ⟨hc3, hf3⟩ := bcell hb3; have hz3 := hb3.size; (try simp only [World.size_alloc] at hz3); (try (have hy3 : w.heap.size < w3.heap.size := by omega)); (try (have hx3 := Nat.lt_of_succ_le hz3)); (try (have hv3 := Nat.lt_of_succ_le (Nat.le_of_lt hx3))); (try (have hy3_1 : w1.heap.size < w3.heap.size := by omega)); (try (have hy3_2 : w2.heap.size < w3.heap.size := by omega)))
  go_wp2_with fail
  (go_at_call 49; refine (H4.out _).mono ?_; rintro e w4 ⟨rfl, hb4⟩; obtain ⟨hc4, hf4⟩ := bcell hb4; have hz4 := hb4.size; (try simp only [World.size_alloc] at hz4); (try (have hy4 : w.heap.size < w4.heap.size := by omega)); (try (have hx4 := Nat.lt_of_succ_le hz4)); (try (have hv4 := Nat.lt_of_succ_le (Nat.le_of_lt hx4))); (try (have hy4_1 : w1.heap.size < w4.heap.size := by omega)); (try (have hy4_2 : w2.heap.size < w4.heap.size := by omega)); (try (have hy4_3 : w3.heap.size < w4.heap.size := by omega)))
  go_wp2_with fail
  all_goals first
    | (go_ret2; refine ⟨by simp_all, ?_⟩; (repeat' (first | (with_reducible exact Below.refl _ _) | (with_reducible refine below_step (by assumption) ?_ ?_) | (with_reducible refine Below.alloc ?_ ?_ _) | (with_reducible refine Below.setCell ?_ ?_ _) | (with_reducible refine below_drewN ?_ _) | (with_reducible refine Below.drew ?_) | omega | (simp; omega) | (simp; done))); done)
    | skip
  (go_at_call 48; refine (H5.out (by assumption) (by assumption) _).mono ?_; rintro e w5 ⟨rfl, hb5⟩; obtain ⟨hc5, hf5⟩ := bcell hb5; have hz5 := hb5.size; (try simp only [World.size_alloc] at hz5); (try (have hy5 : w.heap.size < w5.heap.size := by omega)); (try (have hx5 := Nat.lt_of_succ_le hz5)); (try (have hv5 := Nat.lt_of_succ_le (Nat.le_of_lt hx5))); (try (have hy5_1 : w1.heap.size < w5.heap.size := by omega)); (try (have hy5_2 : w2.heap.size < w5.heap.size := by omega)); (try (have hy5_3 : w3.heap.size < w5.heap.size := by omega)); (try (have hy5_4 : w4.heap.size < w5.heap.size := by omega)))
  go_wp2_with fail
  all_goals first
    | (go_ret2; refine ⟨by simp_all, ?_⟩; (repeat' (first | (with_reducible exact Below.refl _ _) | (with_reducible refine below_step (by assumption) ?_ ?_) | (with_reducible refine Below.alloc ?_ ?_ _) | (with_reducible refine Below.setCell ?_ ?_ _) | (with_reducible refine below_drewN ?_ _) | (with_reducible refine Below.drew ?_) | omega | (simp; omega) | (simp; done))); done)
    | skip
  have kT := ((((((((((Blk.new w #[.int .i64 p, .int .i64 q, .int .i64 r, .int .i64 s, .int .i64 t, .int .i64 u] 27).next hb1).alloc (.cells #[.int .i64 U1, .int .i64 V1] 25)).next hb2).alloc (.cells #[.int .i64 U2, .int .i64 V2] 25)).next hb3).alloc (.cells #[.int .i64 U3, .int .i64 V3] 25)).next hb4).alloc (.cells #[.int .i64 U4, .int .i64 V4] 25)).next hb5).alloc (.cells #[.int .i64 U5, .int .i64 V5] 25)
  have k3 := ((((Blk.new w3 #[.int .i64 U3, .int .i64 V3] 25).next hb4).alloc (.cells #[.int .i64 U4, .int .i64 V4] 25)).next hb5).alloc (.cells #[.int .i64 U5, .int .i64 V5] 25)
  have k4 := ((Blk.new w4 #[.int .i64 U4, .int .i64 V4] 25).next hb5).alloc (.cells #[.int .i64 U5, .int .i64 V5] 25)
  have k5 := Blk.new w5 #[.int .i64 U5, .int .i64 V5] 25
  have hB : Below w.heap.size w (w5.alloc (.cells #[.int .i64 U5, .int .i64 V5] 25)) := by (repeat' (first | (with_reducible exact Below.refl _ _) | (with_reducible refine below_step (by assumption) ?_ ?_) | (with_reducible refine Below.alloc ?_ ?_ _) | (with_reducible refine Below.setCell ?_ ?_ _) | (with_reducible refine below_drewN ?_ _) | (with_reducible refine Below.drew ?_) | omega | (simp; omega) | (simp; done)))
  clear hb1 hb2 hb3 hb4 hb5 hc1 hc2 hc3 hc4 hc5 hf1 hf2 hf3 hf4 hf5 hz1 hz2 hz3 hz4 hz5
  generalize w5.alloc (.cells #[.int .i64 U5, .int .i64 V5] 25) = W at *
  have a0 : W.cell? ⟨w.heap.size, 0, none⟩ = some (.int .i64 p) := kT.cell 0
  have a1 : W.cell? ⟨w.heap.size, 1, none⟩ = some (.int .i64 q) := kT.cell 1
  have a2 : W.cell? ⟨w.heap.size, 2, none⟩ = some (.int .i64 r) := kT.cell 2
  have a3 : W.cell? ⟨w.heap.size, 3, none⟩ = some (.int .i64 s) := kT.cell 3
  have a4 : W.cell? ⟨w.heap.size, 4, none⟩ = some (.int .i64 t) := kT.cell 4
  have a5 : W.cell? ⟨w.heap.size, 5, none⟩ = some (.int .i64 u) := kT.cell 5
  have c0 : W.cell? ⟨w3.heap.size, 0, none⟩ = some (.int .i64 U3) := k3.cell 0
  have c1 : W.cell? ⟨w3.heap.size, 1, none⟩ = some (.int .i64 V3) := k3.cell 1
  have d0 : W.cell? ⟨w4.heap.size, 0, none⟩ = some (.int .i64 U4) := k4.cell 0
  have d1 : W.cell? ⟨w4.heap.size, 1, none⟩ = some (.int .i64 V4) := k4.cell 1
  have e0 : W.cell? ⟨w5.heap.size, 0, none⟩ = some (.int .i64 U5) := k5.cell 0
  have e1 : W.cell? ⟨w5.heap.size, 1, none⟩ = some (.int .i64 V5) := k5.cell 1
  have lT := kT.lt
  have l3 := k3.lt
  have l4 := k4.lt
  have l5 := k5.lt
  have hW := hB.size
  clear kT k3 k4 k5
  cases hp : decide (0 < p)
  · (refine wp_region_clq (by kernel_rfl) (by kernel_rfl) ?_; (repeat (go_big_quiet_step (fail))); refine wpQuiet_nil ?_; intro w6 hb6; obtain ⟨hc6, hf6⟩ := bcell hb6; have hz6 := hb6.size; (try simp only [World.size_alloc] at hz6))
    go_wp2
    go_ret2
    refine ⟨?_, below_step hb6 hW hB⟩
    first | (simp_all; done) | (simp_all; omega)
  cases L
  · (refine wp_region_clq (by kernel_rfl) (by kernel_rfl) ?_; (repeat (go_big_quiet_step ((go_at_call 87; exact Calls.quiet_cls Closed.true _ (H6.out _))))); refine wpQuiet_nil ?_; intro w6 hb6; obtain ⟨hc6, hf6⟩ := bcell hb6; have hz6 := hb6.size; (try simp only [World.size_alloc] at hz6))
    go_wp2
    go_ret2
    refine ⟨?_, below_step hb6 hW hB⟩
    first | (simp_all; done) | (simp_all; omega)
  cases ht : decide (0 < t)
  · (refine wp_region_clq (by kernel_rfl) (by kernel_rfl) ?_; (repeat (go_big_quiet_step ((go_at_call 87; exact Calls.quiet_cls Closed.true _ (H6.out _))))); refine wpQuiet_nil ?_; intro w6 hb6; obtain ⟨hc6, hf6⟩ := bcell hb6; have hz6 := hb6.size; (try simp only [World.size_alloc] at hz6))
    go_wp2
    go_ret2
    refine ⟨?_, below_step hb6 hW hB⟩
    first | (simp_all; done) | (simp_all; omega)
  by_cases he1 : U5 = U3
  rotate_left
  · (refine wp_region_clq (by kernel_rfl) (by kernel_rfl) ?_; (repeat (go_big_quiet_step ((go_at_call 87; exact Calls.quiet_cls Closed.true _ (H6.out _))))); refine wpQuiet_nil ?_; intro w6 hb6; obtain ⟨hc6, hf6⟩ := bcell hb6; have hz6 := hb6.size; (try simp only [World.size_alloc] at hz6))
    go_wp2
    go_ret2
    refine ⟨?_, below_step hb6 hW hB⟩
    first | (simp_all; done) | (simp_all; omega)
  subst he1
  by_cases he2 : V5 = V3
  rotate_left
  · (refine wp_region_clq (by kernel_rfl) (by kernel_rfl) ?_; (repeat (go_big_quiet_step ((go_at_call 87; exact Calls.quiet_cls Closed.true _ (H6.out _))))); refine wpQuiet_nil ?_; intro w6 hb6; obtain ⟨hc6, hf6⟩ := bcell hb6; have hz6 := hb6.size; (try simp only [World.size_alloc] at hz6))
    go_wp2
    go_ret2
    refine ⟨?_, below_step hb6 hW hB⟩
    first | (simp_all; done) | (simp_all; omega)
  subst he2
  by_cases he3 : U4 = 2 * n
  rotate_left
  · (refine wp_region_clq (by kernel_rfl) (by kernel_rfl) ?_; (repeat (go_big_quiet_step (first | (go_at_call 87; exact Calls.quiet_cls Closed.true _ (H6.out _)) | (go_at_call 50; exact Calls.quiet_cls Closed.true _ (c_frInt _ _))))); refine wpQuiet_nil ?_; intro w6 hb6; obtain ⟨hc6, hf6⟩ := bcell hb6; have hz6 := hb6.size; (try simp only [World.size_alloc] at hz6))
    go_wp2
    go_ret2
    refine ⟨?_, below_step hb6 hW hB⟩
    first | (simp_all; done) | (simp_all; omega)
  subst he3
  by_cases he4 : V4 = 1
  rotate_left
  · (refine wp_region_clq (by kernel_rfl) (by kernel_rfl) ?_; (repeat (go_big_quiet_step (first | (go_at_call 87; exact Calls.quiet_cls Closed.true _ (H6.out _)) | (go_at_call 50; exact Calls.quiet_cls Closed.true _ (c_frInt _ _))))); refine wpQuiet_nil ?_; intro w6 hb6; obtain ⟨hc6, hf6⟩ := bcell hb6; have hz6 := hb6.size; (try simp only [World.size_alloc] at hz6))
    go_wp2
    go_ret2
    refine ⟨?_, below_step hb6 hW hB⟩
    first | (simp_all; done) | (simp_all; omega)
  subst he4
  · (refine wp_region_clq (by kernel_rfl) (by kernel_rfl) ?_; (repeat (go_big_quiet_step (first | (go_at_call 87; exact Calls.quiet_cls Closed.true _ (H6.out _)) | (go_at_call 50; exact Calls.quiet_cls Closed.true _ (c_frInt _ _))))); refine wpQuiet_nil ?_; intro w6 hb6; obtain ⟨hc6, hf6⟩ := bcell hb6; have hz6 := hb6.size; (try simp only [World.size_alloc] at hz6))
    go_wp2
    go_ret2
    refine ⟨?_, below_step hb6 hW hB⟩
    first | (simp_all; done) | (simp_all; omega)
end Go.Proofs.Ytcnfjapoopdiaaa
