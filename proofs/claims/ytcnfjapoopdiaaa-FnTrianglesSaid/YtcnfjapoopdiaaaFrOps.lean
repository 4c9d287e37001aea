/- Walks: sums, products, quotients of fractions. -/
import Derived.Test.YtcnfjapoopdiaaaFrac
namespace Go.Proofs.Ytcnfjapoopdiaaa
open Go.RowKit

theorem fr_bd {n d m e : Int} (hn : -1000000000 ≤ n ∧ n ≤ 1000000000) (hd : 1 ≤ d ∧ d ≤ 1000000000) (hm : -1000000000 ≤ m ∧ m ≤ 1000000000) (he : 1 ≤ e ∧ e ≤ 1000000000) :
    (-1000000000000000000 ≤ n * e ∧ n * e ≤ 1000000000000000000) ∧ (-1000000000000000000 ≤ m * d ∧ m * d ≤ 1000000000000000000) ∧ (1 ≤ d * e ∧ d * e ≤ 1000000000000000000) ∧ (-1000000000000000000 ≤ n * m ∧ n * m ≤ 1000000000000000000) ∧ (-1000000000000000000 ≤ d * m ∧ d * m ≤ 1000000000000000000) := by
  have h1 := mulb (x := n) (y := e) 1000000000 1000000000 hn (by omega)
  have h2 := mulb (x := m) (y := d) 1000000000 1000000000 hm (by omega)
  have h3 := mulb (x := d) (y := e) 1000000000 1000000000 (by omega) (by omega)
  have h4 := mulb (x := n) (y := m) 1000000000 1000000000 hn hm
  have h5 := mulb (x := d) (y := m) 1000000000 1000000000 (by omega) hm
  have h6 := Int.mul_le_mul hd.1 he.1 (by omega) (by omega)
  omega
set_option maxHeartbeats 1000000 in
theorem c_frAdd (n d m e : Int) (hA : frOk n d = true) (hB : frOk m e = true) (w : World) :
    Calls Try.prog 48 #[.agg #[.int .i64 n, .int .i64 d], .agg #[.int .i64 m, .int .i64 e]] w fun r w' => r = .returned (.tuple #[.agg #[.int .i64 (rsI (mOk (n * e + m * d) (d * e)) (mkN (n * e + m * d) (d * e))), .int .i64 (rsI (mOk (n * e + m * d) (d * e)) (mkD (n * e + m * d) (d * e)))], .bool (mOk (n * e + m * d) (d * e))]) ∧ Below w.heap.size w w' := by
  obtain ⟨hd, hn⟩ := frOk_of hA
  obtain ⟨he, hm⟩ := frOk_of hB
  obtain ⟨b1, b2, b3, b4, b5⟩ := fr_bd hn hd hm he
  have H := Lib.hid (c_frMake (n * e + m * d) (d * e) (by omega) (by omega))
  generalize rsI (mOk (n * e + m * d) (d * e)) (mkN (n * e + m * d) (d * e)) = U at H ⊢
  generalize rsI (mOk (n * e + m * d) (d * e)) (mkD (n * e + m * d) (d * e)) = V at H ⊢
  generalize mOk (n * e + m * d) (d * e) = o at H ⊢
  have hx : Bx (w.heap.size + 1 + 1) (.int .i64 0) (.int .i64 0) (((w.alloc (.cells #[.int .i64 n, .int .i64 d] 25)).alloc (.cells #[.int .i64 m, .int .i64 e] 25)).alloc (.cells #[.int .i64 0, .int .i64 0] 25)) := ⟨by simp [go_sem], by simp [go_sem], by simp [go_sem], by simp [go_sem], by simp⟩
  go_enter Try.func48, Try.ntmps48
  go_wp2_with fail
  (go_at_call 30; refine (H.out _).mono ?_; rintro e w1 ⟨rfl, hb1⟩; obtain ⟨hc1, hf1⟩ := bcell hb1; have hz1 := hb1.size; (try simp only [World.size_alloc] at hz1); (try (have hy1 : w.heap.size < w1.heap.size := by omega)); (try (have hx1 := Nat.lt_of_succ_le hz1)); (try (have hv1 := Nat.lt_of_succ_le (Nat.le_of_lt hx1))))
  obtain ⟨x1, x2, x3, x4, x5⟩ := hx.below hb1
  go_wp2
  refine bodyPost_ret (v := .tuple #[.agg #[.int .i64 U, .int .i64 V], .bool o]) (by simp [results, Try.results48, go_sem, x1, x2]) rfl ⟨rfl, ?_⟩
  (repeat' (first | (with_reducible exact Below.refl _ _) | (with_reducible refine below_step (by assumption) ?_ ?_) | (with_reducible refine Below.alloc ?_ ?_ _) | (with_reducible refine Below.setCell ?_ ?_ _) | (with_reducible refine below_drewN ?_ _) | (with_reducible refine Below.drew ?_) | omega | (simp; omega) | (simp; done)))
set_option maxHeartbeats 1000000 in
theorem c_SumOf (n d m e : Int) (hA : frOk n d = true) (hB : frOk m e = true) (w : World) :
    Calls Try.prog 84 #[.agg #[.int .i64 n, .int .i64 d], .agg #[.int .i64 m, .int .i64 e]] w fun r w' => r = .returned (.tuple #[.agg #[.int .i64 (rsI (mOk (n * e + m * d) (d * e)) (mkN (n * e + m * d) (d * e))), .int .i64 (rsI (mOk (n * e + m * d) (d * e)) (mkD (n * e + m * d) (d * e)))], .bool (mOk (n * e + m * d) (d * e))]) ∧ Below w.heap.size w w' := by
  obtain ⟨hd, hn⟩ := frOk_of hA
  obtain ⟨he, hm⟩ := frOk_of hB
  obtain ⟨b1, b2, b3, b4, b5⟩ := fr_bd hn hd hm he
  have H := Lib.hid (c_makeFraction (n * e + m * d) (d * e) (by omega) (by omega) (by omega))
  generalize rsI (mOk (n * e + m * d) (d * e)) (mkN (n * e + m * d) (d * e)) = U at H ⊢
  generalize rsI (mOk (n * e + m * d) (d * e)) (mkD (n * e + m * d) (d * e)) = V at H ⊢
  generalize mOk (n * e + m * d) (d * e) = o at H ⊢
  have hx : Bx (w.heap.size + 1 + 1) (.int .i64 0) (.int .i64 0) (((w.alloc (.cells #[.int .i64 n, .int .i64 d] 25)).alloc (.cells #[.int .i64 m, .int .i64 e] 25)).alloc (.cells #[.int .i64 0, .int .i64 0] 25)) := ⟨by simp [go_sem], by simp [go_sem], by simp [go_sem], by simp [go_sem], by simp⟩
  go_enter Try.func84, Try.ntmps84
  go_wp2_with fail
  (go_at_call 80; refine (c_isFraction _ _ _).mono ?_; rintro e w1 ⟨rfl, hb1⟩; obtain ⟨hc1, hf1⟩ := bcell hb1; have hz1 := hb1.size; (try simp only [World.size_alloc] at hz1); (try (have hy1 : w.heap.size < w1.heap.size := by omega)); (try (have hx1 := Nat.lt_of_succ_le hz1)); (try (have hv1 := Nat.lt_of_succ_le (Nat.le_of_lt hx1))))
  go_wp2_with fail
  (go_at_call 80; refine (c_isFraction _ _ _).mono ?_; rintro e w2 ⟨rfl, hb2⟩; obtain ⟨hc2, hf2⟩ := bcell hb2; have hz2 := hb2.size; (try simp only [World.size_alloc] at hz2); (try (have hy2 : w.heap.size < w2.heap.size := by omega)); (try (have hx2 := Nat.lt_of_succ_le hz2)); (try (have hv2 := Nat.lt_of_succ_le (Nat.le_of_lt hx2))); (try (have hy2_1 : w1.heap.size < w2.heap.size := by omega)))
  go_wp2_with fail
  (go_at_call 35; refine (H.out _).mono ?_; rintro e w3 ⟨rfl, hb3⟩; obtain ⟨hc3, hf3⟩ := bcell hb3; have hz3 := hb3.size; (try simp only [World.size_alloc] at hz3); (try (have hy3 : w.heap.size < w3.heap.size := by omega)); (try (have hx3 := Nat.lt_of_succ_le hz3)); (try (have hv3 := Nat.lt_of_succ_le (Nat.le_of_lt hx3))); (try (have hy3_1 : w1.heap.size < w3.heap.size := by omega)); (try (have hy3_2 : w2.heap.size < w3.heap.size := by omega)))
  obtain ⟨x1, x2, x3, x4, x5⟩ := ((hx.below hb1).below hb2).below hb3
  go_wp2
  refine bodyPost_ret (v := .tuple #[.agg #[.int .i64 U, .int .i64 V], .bool o]) (by simp [results, Try.results84, go_sem, x1, x2]) rfl ⟨rfl, ?_⟩
  (repeat' (first | (with_reducible exact Below.refl _ _) | (with_reducible refine below_step (by assumption) ?_ ?_) | (with_reducible refine Below.alloc ?_ ?_ _) | (with_reducible refine Below.setCell ?_ ?_ _) | (with_reducible refine below_drewN ?_ _) | (with_reducible refine Below.drew ?_) | omega | (simp; omega) | (simp; done)))
set_option maxHeartbeats 1000000 in
theorem c_frSub (n d m e : Int) (hA : frOk n d = true) (hB : frOk m e = true) (w : World) :
    Calls Try.prog 57 #[.agg #[.int .i64 n, .int .i64 d], .agg #[.int .i64 m, .int .i64 e]] w fun r w' => r = .returned (.tuple #[.agg #[.int .i64 (rsI (mOk (n * e - m * d) (d * e)) (mkN (n * e - m * d) (d * e))), .int .i64 (rsI (mOk (n * e - m * d) (d * e)) (mkD (n * e - m * d) (d * e)))], .bool (mOk (n * e - m * d) (d * e))]) ∧ Below w.heap.size w w' := by
  obtain ⟨hd, hn⟩ := frOk_of hA
  obtain ⟨he, hm⟩ := frOk_of hB
  obtain ⟨b1, b2, b3, b4, b5⟩ := fr_bd hn hd hm he
  have H := Lib.hid (c_frMake (n * e - m * d) (d * e) (by omega) (by omega))
  generalize rsI (mOk (n * e - m * d) (d * e)) (mkN (n * e - m * d) (d * e)) = U at H ⊢
  generalize rsI (mOk (n * e - m * d) (d * e)) (mkD (n * e - m * d) (d * e)) = V at H ⊢
  generalize mOk (n * e - m * d) (d * e) = o at H ⊢
  have hx : Bx (w.heap.size + 1 + 1) (.int .i64 0) (.int .i64 0) (((w.alloc (.cells #[.int .i64 n, .int .i64 d] 25)).alloc (.cells #[.int .i64 m, .int .i64 e] 25)).alloc (.cells #[.int .i64 0, .int .i64 0] 25)) := ⟨by simp [go_sem], by simp [go_sem], by simp [go_sem], by simp [go_sem], by simp⟩
  go_enter Try.func57, Try.ntmps57
  go_wp2_with fail
  (go_at_call 30; refine (H.out _).mono ?_; rintro e w1 ⟨rfl, hb1⟩; obtain ⟨hc1, hf1⟩ := bcell hb1; have hz1 := hb1.size; (try simp only [World.size_alloc] at hz1); (try (have hy1 : w.heap.size < w1.heap.size := by omega)); (try (have hx1 := Nat.lt_of_succ_le hz1)); (try (have hv1 := Nat.lt_of_succ_le (Nat.le_of_lt hx1))))
  obtain ⟨x1, x2, x3, x4, x5⟩ := hx.below hb1
  go_wp2
  refine bodyPost_ret (v := .tuple #[.agg #[.int .i64 U, .int .i64 V], .bool o]) (by simp [results, Try.results57, go_sem, x1, x2]) rfl ⟨rfl, ?_⟩
  (repeat' (first | (with_reducible exact Below.refl _ _) | (with_reducible refine below_step (by assumption) ?_ ?_) | (with_reducible refine Below.alloc ?_ ?_ _) | (with_reducible refine Below.setCell ?_ ?_ _) | (with_reducible refine below_drewN ?_ _) | (with_reducible refine Below.drew ?_) | omega | (simp; omega) | (simp; done)))
set_option maxHeartbeats 1000000 in
theorem c_DifferenceOf (n d m e : Int) (hA : frOk n d = true) (hB : frOk m e = true) (w : World) :
    Calls Try.prog 82 #[.agg #[.int .i64 n, .int .i64 d], .agg #[.int .i64 m, .int .i64 e]] w fun r w' => r = .returned (.tuple #[.agg #[.int .i64 (rsI (mOk (n * e - m * d) (d * e)) (mkN (n * e - m * d) (d * e))), .int .i64 (rsI (mOk (n * e - m * d) (d * e)) (mkD (n * e - m * d) (d * e)))], .bool (mOk (n * e - m * d) (d * e))]) ∧ Below w.heap.size w w' := by
  obtain ⟨hd, hn⟩ := frOk_of hA
  obtain ⟨he, hm⟩ := frOk_of hB
  obtain ⟨b1, b2, b3, b4, b5⟩ := fr_bd hn hd hm he
  have H := Lib.hid (c_makeFraction (n * e - m * d) (d * e) (by omega) (by omega) (by omega))
  generalize rsI (mOk (n * e - m * d) (d * e)) (mkN (n * e - m * d) (d * e)) = U at H ⊢
  generalize rsI (mOk (n * e - m * d) (d * e)) (mkD (n * e - m * d) (d * e)) = V at H ⊢
  generalize mOk (n * e - m * d) (d * e) = o at H ⊢
  have hx : Bx (w.heap.size + 1 + 1) (.int .i64 0) (.int .i64 0) (((w.alloc (.cells #[.int .i64 n, .int .i64 d] 25)).alloc (.cells #[.int .i64 m, .int .i64 e] 25)).alloc (.cells #[.int .i64 0, .int .i64 0] 25)) := ⟨by simp [go_sem], by simp [go_sem], by simp [go_sem], by simp [go_sem], by simp⟩
  go_enter Try.func82, Try.ntmps82
  go_wp2_with fail
  (go_at_call 80; refine (c_isFraction _ _ _).mono ?_; rintro e w1 ⟨rfl, hb1⟩; obtain ⟨hc1, hf1⟩ := bcell hb1; have hz1 := hb1.size; (try simp only [World.size_alloc] at hz1); (try (have hy1 : w.heap.size < w1.heap.size := by omega)); (try (have hx1 := Nat.lt_of_succ_le hz1)); (try (have hv1 := Nat.lt_of_succ_le (Nat.le_of_lt hx1))))
  go_wp2_with fail
  (go_at_call 80; refine (c_isFraction _ _ _).mono ?_; rintro e w2 ⟨rfl, hb2⟩; obtain ⟨hc2, hf2⟩ := bcell hb2; have hz2 := hb2.size; (try simp only [World.size_alloc] at hz2); (try (have hy2 : w.heap.size < w2.heap.size := by omega)); (try (have hx2 := Nat.lt_of_succ_le hz2)); (try (have hv2 := Nat.lt_of_succ_le (Nat.le_of_lt hx2))); (try (have hy2_1 : w1.heap.size < w2.heap.size := by omega)))
  go_wp2_with fail
  (go_at_call 35; refine (H.out _).mono ?_; rintro e w3 ⟨rfl, hb3⟩; obtain ⟨hc3, hf3⟩ := bcell hb3; have hz3 := hb3.size; (try simp only [World.size_alloc] at hz3); (try (have hy3 : w.heap.size < w3.heap.size := by omega)); (try (have hx3 := Nat.lt_of_succ_le hz3)); (try (have hv3 := Nat.lt_of_succ_le (Nat.le_of_lt hx3))); (try (have hy3_1 : w1.heap.size < w3.heap.size := by omega)); (try (have hy3_2 : w2.heap.size < w3.heap.size := by omega)))
  obtain ⟨x1, x2, x3, x4, x5⟩ := ((hx.below hb1).below hb2).below hb3
  go_wp2
  refine bodyPost_ret (v := .tuple #[.agg #[.int .i64 U, .int .i64 V], .bool o]) (by simp [results, Try.results82, go_sem, x1, x2]) rfl ⟨rfl, ?_⟩
  (repeat' (first | (with_reducible exact Below.refl _ _) | (with_reducible refine below_step (by assumption) ?_ ?_) | (with_reducible refine Below.alloc ?_ ?_ _) | (with_reducible refine Below.setCell ?_ ?_ _) | (with_reducible refine below_drewN ?_ _) | (with_reducible refine Below.drew ?_) | omega | (simp; omega) | (simp; done)))
set_option maxHeartbeats 1000000 in
theorem c_frMul (n d m e : Int) (hA : frOk n d = true) (hB : frOk m e = true) (w : World) :
    Calls Try.prog 49 #[.agg #[.int .i64 n, .int .i64 d], .agg #[.int .i64 m, .int .i64 e]] w fun r w' => r = .returned (.tuple #[.agg #[.int .i64 (rsI (mOk (n * m) (d * e)) (mkN (n * m) (d * e))), .int .i64 (rsI (mOk (n * m) (d * e)) (mkD (n * m) (d * e)))], .bool (mOk (n * m) (d * e))]) ∧ Below w.heap.size w w' := by
  obtain ⟨hd, hn⟩ := frOk_of hA
  obtain ⟨he, hm⟩ := frOk_of hB
  obtain ⟨b1, b2, b3, b4, b5⟩ := fr_bd hn hd hm he
  have H := Lib.hid (c_frMake (n * m) (d * e) (by omega) (by omega))
  generalize rsI (mOk (n * m) (d * e)) (mkN (n * m) (d * e)) = U at H ⊢
  generalize rsI (mOk (n * m) (d * e)) (mkD (n * m) (d * e)) = V at H ⊢
  generalize mOk (n * m) (d * e) = o at H ⊢
  have hx : Bx (w.heap.size + 1 + 1) (.int .i64 0) (.int .i64 0) (((w.alloc (.cells #[.int .i64 n, .int .i64 d] 25)).alloc (.cells #[.int .i64 m, .int .i64 e] 25)).alloc (.cells #[.int .i64 0, .int .i64 0] 25)) := ⟨by simp [go_sem], by simp [go_sem], by simp [go_sem], by simp [go_sem], by simp⟩
  go_enter Try.func49, Try.ntmps49
  go_wp2_with fail
  (go_at_call 30; refine (H.out _).mono ?_; rintro e w1 ⟨rfl, hb1⟩; obtain ⟨hc1, hf1⟩ := bcell hb1; have hz1 := hb1.size; (try simp only [World.size_alloc] at hz1); (try (have hy1 : w.heap.size < w1.heap.size := by omega)); (try (have hx1 := Nat.lt_of_succ_le hz1)); (try (have hv1 := Nat.lt_of_succ_le (Nat.le_of_lt hx1))))
  obtain ⟨x1, x2, x3, x4, x5⟩ := hx.below hb1
  go_wp2
  refine bodyPost_ret (v := .tuple #[.agg #[.int .i64 U, .int .i64 V], .bool o]) (by simp [results, Try.results49, go_sem, x1, x2]) rfl ⟨rfl, ?_⟩
  (repeat' (first | (with_reducible exact Below.refl _ _) | (with_reducible refine below_step (by assumption) ?_ ?_) | (with_reducible refine Below.alloc ?_ ?_ _) | (with_reducible refine Below.setCell ?_ ?_ _) | (with_reducible refine below_drewN ?_ _) | (with_reducible refine Below.drew ?_) | omega | (simp; omega) | (simp; done)))
set_option maxHeartbeats 1000000 in
theorem c_ProductOf (n d m e : Int) (hA : frOk n d = true) (hB : frOk m e = true) (w : World) :
    Calls Try.prog 81 #[.agg #[.int .i64 n, .int .i64 d], .agg #[.int .i64 m, .int .i64 e]] w fun r w' => r = .returned (.tuple #[.agg #[.int .i64 (rsI (mOk (n * m) (d * e)) (mkN (n * m) (d * e))), .int .i64 (rsI (mOk (n * m) (d * e)) (mkD (n * m) (d * e)))], .bool (mOk (n * m) (d * e))]) ∧ Below w.heap.size w w' := by
  obtain ⟨hd, hn⟩ := frOk_of hA
  obtain ⟨he, hm⟩ := frOk_of hB
  obtain ⟨b1, b2, b3, b4, b5⟩ := fr_bd hn hd hm he
  have H := Lib.hid (c_makeFraction (n * m) (d * e) (by omega) (by omega) (by omega))
  generalize rsI (mOk (n * m) (d * e)) (mkN (n * m) (d * e)) = U at H ⊢
  generalize rsI (mOk (n * m) (d * e)) (mkD (n * m) (d * e)) = V at H ⊢
  generalize mOk (n * m) (d * e) = o at H ⊢
  have hx : Bx (w.heap.size + 1 + 1) (.int .i64 0) (.int .i64 0) (((w.alloc (.cells #[.int .i64 n, .int .i64 d] 25)).alloc (.cells #[.int .i64 m, .int .i64 e] 25)).alloc (.cells #[.int .i64 0, .int .i64 0] 25)) := ⟨by simp [go_sem], by simp [go_sem], by simp [go_sem], by simp [go_sem], by simp⟩
  go_enter Try.func81, Try.ntmps81
  go_wp2_with fail
  (go_at_call 80; refine (c_isFraction _ _ _).mono ?_; rintro e w1 ⟨rfl, hb1⟩; obtain ⟨hc1, hf1⟩ := bcell hb1; have hz1 := hb1.size; (try simp only [World.size_alloc] at hz1); (try (have hy1 : w.heap.size < w1.heap.size := by omega)); (try (have hx1 := Nat.lt_of_succ_le hz1)); (try (have hv1 := Nat.lt_of_succ_le (Nat.le_of_lt hx1))))
  go_wp2_with fail
  (go_at_call 80; refine (c_isFraction _ _ _).mono ?_; rintro e w2 ⟨rfl, hb2⟩; obtain ⟨hc2, hf2⟩ := bcell hb2; have hz2 := hb2.size; (try simp only [World.size_alloc] at hz2); (try (have hy2 : w.heap.size < w2.heap.size := by omega)); (try (have hx2 := Nat.lt_of_succ_le hz2)); (try (have hv2 := Nat.lt_of_succ_le (Nat.le_of_lt hx2))); (try (have hy2_1 : w1.heap.size < w2.heap.size := by omega)))
  go_wp2_with fail
  (go_at_call 35; refine (H.out _).mono ?_; rintro e w3 ⟨rfl, hb3⟩; obtain ⟨hc3, hf3⟩ := bcell hb3; have hz3 := hb3.size; (try simp only [World.size_alloc] at hz3); (try (have hy3 : w.heap.size < w3.heap.size := by omega)); (try (have hx3 := Nat.lt_of_succ_le hz3)); (try (have hv3 := Nat.lt_of_succ_le (Nat.le_of_lt hx3))); (try (have hy3_1 : w1.heap.size < w3.heap.size := by omega)); (try (have hy3_2 : w2.heap.size < w3.heap.size := by omega)))
  obtain ⟨x1, x2, x3, x4, x5⟩ := ((hx.below hb1).below hb2).below hb3
  go_wp2
  refine bodyPost_ret (v := .tuple #[.agg #[.int .i64 U, .int .i64 V], .bool o]) (by simp [results, Try.results81, go_sem, x1, x2]) rfl ⟨rfl, ?_⟩
  (repeat' (first | (with_reducible exact Below.refl _ _) | (with_reducible refine below_step (by assumption) ?_ ?_) | (with_reducible refine Below.alloc ?_ ?_ _) | (with_reducible refine Below.setCell ?_ ?_ _) | (with_reducible refine below_drewN ?_ _) | (with_reducible refine Below.drew ?_) | omega | (simp; omega) | (simp; done)))
end Go.Proofs.Ytcnfjapoopdiaaa
