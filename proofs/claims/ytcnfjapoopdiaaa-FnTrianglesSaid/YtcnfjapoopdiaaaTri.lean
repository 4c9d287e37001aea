/- Walks: whole numbers as fractions, comparison, quotients; the sides of triangles. -/
import Derived.Test.YtcnfjapoopdiaaaCalc
namespace Go.Proofs.Ytcnfjapoopdiaaa
open Go.RowKit

theorem c_frInt (n : Int) (w : World) :
    Calls Try.prog 50 #[.int .i64 n] w fun r w' => r = .returned (.agg #[.int .i64 n, .int .i64 1]) ∧ Below w.heap.size w w' := by
  go_enter Try.func50, Try.ntmps50
  go_wp2
  refine bodyPost_ret (v := .agg #[.int .i64 n, .int .i64 1]) (by simp [results, Try.results50, go_sem]) rfl ⟨rfl, ?_⟩
  (repeat' (first | (with_reducible exact Below.refl _ _) | (with_reducible refine below_step (by assumption) ?_ ?_) | (with_reducible refine Below.alloc ?_ ?_ _) | (with_reducible refine Below.setCell ?_ ?_ _) | (with_reducible refine below_drewN ?_ _) | (with_reducible refine Below.drew ?_) | omega | (simp; omega) | (simp; done)))
theorem c_frLess (n d m e : Int) (hA : frOk n d = true) (hB : frOk m e = true) (w : World) :
    Calls Try.prog 87 #[.agg #[.int .i64 n, .int .i64 d], .agg #[.int .i64 m, .int .i64 e]] w fun r w' => r = .returned (.bool (decide (n * e < m * d))) ∧ Below w.heap.size w w' := by
  obtain ⟨hd, hn⟩ := frOk_of hA
  obtain ⟨he, hm⟩ := frOk_of hB
  obtain ⟨b1, b2, b3, b4, b5⟩ := fr_bd hn hd hm he
  go_enter Try.func87, Try.ntmps87
  go_wp2
  go_ret
  refine ⟨rfl, ?_⟩
  (repeat' (first | (with_reducible exact Below.refl _ _) | (with_reducible refine below_step (by assumption) ?_ ?_) | (with_reducible refine Below.alloc ?_ ?_ _) | (with_reducible refine Below.setCell ?_ ?_ _) | (with_reducible refine below_drewN ?_ _) | (with_reducible refine Below.drew ?_) | omega | (simp; omega) | (simp; done)))
theorem c_IsLess (n d m e : Int) (hA : frOk n d = true) (hB : frOk m e = true) (w : World) :
    Calls Try.prog 85 #[.agg #[.int .i64 n, .int .i64 d], .agg #[.int .i64 m, .int .i64 e]] w fun r w' => r = .returned (.tuple #[.bool (decide (n * e < m * d)), .bool true]) ∧ Below w.heap.size w w' := by
  obtain ⟨hd, hn⟩ := frOk_of hA
  obtain ⟨he, hm⟩ := frOk_of hB
  obtain ⟨b1, b2, b3, b4, b5⟩ := fr_bd hn hd hm he
  have hx : Bx w.heap.size (.int .i64 n) (.int .i64 d) ((w.alloc (.cells #[.int .i64 n, .int .i64 d] 25)).alloc (.cells #[.int .i64 m, .int .i64 e] 25)) := ⟨by simp [go_sem], by simp [go_sem], by simp [go_sem], by simp [go_sem], by simp; omega⟩
  have hy : Bx (w.heap.size + 1) (.int .i64 m) (.int .i64 e) ((w.alloc (.cells #[.int .i64 n, .int .i64 d] 25)).alloc (.cells #[.int .i64 m, .int .i64 e] 25)) := ⟨by simp [go_sem], by simp [go_sem], by simp [go_sem], by simp [go_sem], by simp⟩
  go_enter Try.func85, Try.ntmps85
  go_wp2_with fail
  (go_at_call 80; refine (c_isFraction _ _ _).mono ?_; rintro e w1 ⟨rfl, hb1⟩; obtain ⟨hc1, hf1⟩ := bcell hb1; have hz1 := hb1.size; (try simp only [World.size_alloc] at hz1); (try (have hy1 : w.heap.size < w1.heap.size := by omega)); (try (have hx1 := Nat.lt_of_succ_le hz1)); (try (have hv1 := Nat.lt_of_succ_le (Nat.le_of_lt hx1))))
  go_wp2_with fail
  (go_at_call 80; refine (c_isFraction _ _ _).mono ?_; rintro e w2 ⟨rfl, hb2⟩; obtain ⟨hc2, hf2⟩ := bcell hb2; have hz2 := hb2.size; (try simp only [World.size_alloc] at hz2); (try (have hy2 : w.heap.size < w2.heap.size := by omega)); (try (have hx2 := Nat.lt_of_succ_le hz2)); (try (have hv2 := Nat.lt_of_succ_le (Nat.le_of_lt hx2))); (try (have hy2_1 : w1.heap.size < w2.heap.size := by omega)))
  obtain ⟨x1, x2, _, _, _⟩ := (hx.below hb1).below hb2
  obtain ⟨y1, y2, _, _, _⟩ := (hy.below hb1).below hb2
  go_wp2
  go_ret2
  refine ⟨rfl, ?_⟩
  (repeat' (first | (with_reducible exact Below.refl _ _) | (with_reducible refine below_step (by assumption) ?_ ?_) | (with_reducible refine Below.alloc ?_ ?_ _) | (with_reducible refine Below.setCell ?_ ?_ _) | (with_reducible refine below_drewN ?_ _) | (with_reducible refine Below.drew ?_) | omega | (simp; omega) | (simp; done)))
set_option maxHeartbeats 1000000 in
theorem c_frDiv (n d m e : Int) (hA : frOk n d = true) (hB : frOk m e = true) (w : World) :
    Calls Try.prog 51 #[.agg #[.int .i64 n, .int .i64 d], .agg #[.int .i64 m, .int .i64 e]] w fun r w' => r = .returned (.tuple #[.agg #[.int .i64 (rsI (mOk (n * e) (d * m)) (mkN (n * e) (d * m))), .int .i64 (rsI (mOk (n * e) (d * m)) (mkD (n * e) (d * m)))], .bool (mOk (n * e) (d * m))]) ∧ Below w.heap.size w w' := by
  obtain ⟨hd, hn⟩ := frOk_of hA
  obtain ⟨he, hm⟩ := frOk_of hB
  obtain ⟨b1, b2, b3, b4, b5⟩ := fr_bd hn hd hm he
  have hx : Bx (w.heap.size + 1 + 1) (.int .i64 0) (.int .i64 0) (((w.alloc (.cells #[.int .i64 n, .int .i64 d] 25)).alloc (.cells #[.int .i64 m, .int .i64 e] 25)).alloc (.cells #[.int .i64 0, .int .i64 0] 25)) := ⟨by simp [go_sem], by simp [go_sem], by simp [go_sem], by simp [go_sem], by simp⟩
  cases h0 : (m == 0)
  · have H := Lib.hid (c_frMake (n * e) (d * m) (by omega) (by omega))
    generalize rsI (mOk (n * e) (d * m)) (mkN (n * e) (d * m)) = U at H ⊢
    generalize rsI (mOk (n * e) (d * m)) (mkD (n * e) (d * m)) = V at H ⊢
    generalize mOk (n * e) (d * m) = o at H ⊢
    go_enter Try.func51, Try.ntmps51
    go_wp2_with fail
    (go_at_call 30; refine (H.out _).mono ?_; rintro e w1 ⟨rfl, hb1⟩; obtain ⟨hc1, hf1⟩ := bcell hb1; have hz1 := hb1.size; (try simp only [World.size_alloc] at hz1); (try (have hy1 : w.heap.size < w1.heap.size := by omega)); (try (have hx1 := Nat.lt_of_succ_le hz1)); (try (have hv1 := Nat.lt_of_succ_le (Nat.le_of_lt hx1))))
    obtain ⟨x1, x2, x3, x4, x5⟩ := hx.below hb1
    go_wp2
    refine bodyPost_ret (v := .tuple #[.agg #[.int .i64 U, .int .i64 V], .bool o]) (by simp [results, Try.results51, go_sem, x1, x2]) rfl ⟨rfl, ?_⟩
    (repeat' (first | (with_reducible exact Below.refl _ _) | (with_reducible refine below_step (by assumption) ?_ ?_) | (with_reducible refine Below.alloc ?_ ?_ _) | (with_reducible refine Below.setCell ?_ ?_ _) | (with_reducible refine below_drewN ?_ _) | (with_reducible refine Below.drew ?_) | omega | (simp; omega) | (simp; done)))
  · obtain rfl : m = 0 := by simpa using h0
    have hm0 : mOk (n * e) (d * 0) = false := by unfold mOk; simp
    rw [hm0]
    go_enter Try.func51, Try.ntmps51
    go_wp2
    refine bodyPost_ret (v := .tuple #[.agg #[.int .i64 0, .int .i64 0], .bool false]) (by simp [results, Try.results51, go_sem]) rfl ⟨rfl, ?_⟩
    (repeat' (first | (with_reducible exact Below.refl _ _) | (with_reducible refine below_step (by assumption) ?_ ?_) | (with_reducible refine Below.alloc ?_ ?_ _) | (with_reducible refine Below.setCell ?_ ?_ _) | (with_reducible refine below_drewN ?_ _) | (with_reducible refine Below.drew ?_) | omega | (simp; omega) | (simp; done)))
set_option maxHeartbeats 1000000 in
theorem c_QuotientOf (n d m e : Int) (hA : frOk n d = true) (hB : frOk m e = true) (w : World) :
    Calls Try.prog 83 #[.agg #[.int .i64 n, .int .i64 d], .agg #[.int .i64 m, .int .i64 e]] w fun r w' => r = .returned (.tuple #[.agg #[.int .i64 (rsI (mOk (n * e) (d * m)) (mkN (n * e) (d * m))), .int .i64 (rsI (mOk (n * e) (d * m)) (mkD (n * e) (d * m)))], .bool (mOk (n * e) (d * m))]) ∧ Below w.heap.size w w' := by
  obtain ⟨hd, hn⟩ := frOk_of hA
  obtain ⟨he, hm⟩ := frOk_of hB
  obtain ⟨b1, b2, b3, b4, b5⟩ := fr_bd hn hd hm he
  have hx : Bx (w.heap.size + 1 + 1) (.int .i64 0) (.int .i64 0) (((w.alloc (.cells #[.int .i64 n, .int .i64 d] 25)).alloc (.cells #[.int .i64 m, .int .i64 e] 25)).alloc (.cells #[.int .i64 0, .int .i64 0] 25)) := ⟨by simp [go_sem], by simp [go_sem], by simp [go_sem], by simp [go_sem], by simp⟩
  cases h0 : (m == 0)
  · have hm1 : m ≠ 0 := by simpa using h0
    have hne : d * m ≠ 0 := by
      intro h
      rcases Int.mul_eq_zero.1 h with h | h <;> omega
    have H := Lib.hid (c_makeFraction (n * e) (d * m) hne (by omega) (by omega))
    clear hne hm1
    generalize rsI (mOk (n * e) (d * m)) (mkN (n * e) (d * m)) = U at H ⊢
    generalize rsI (mOk (n * e) (d * m)) (mkD (n * e) (d * m)) = V at H ⊢
    generalize mOk (n * e) (d * m) = o at H ⊢
    go_enter Try.func83, Try.ntmps83
    go_wp2_with fail
    (go_at_call 80; refine (c_isFraction _ _ _).mono ?_; rintro e w1 ⟨rfl, hb1⟩; obtain ⟨hc1, hf1⟩ := bcell hb1; have hz1 := hb1.size; (try simp only [World.size_alloc] at hz1); (try (have hy1 : w.heap.size < w1.heap.size := by omega)); (try (have hx1 := Nat.lt_of_succ_le hz1)); (try (have hv1 := Nat.lt_of_succ_le (Nat.le_of_lt hx1))))
    go_wp2_with fail
    (go_at_call 80; refine (c_isFraction _ _ _).mono ?_; rintro e w2 ⟨rfl, hb2⟩; obtain ⟨hc2, hf2⟩ := bcell hb2; have hz2 := hb2.size; (try simp only [World.size_alloc] at hz2); (try (have hy2 : w.heap.size < w2.heap.size := by omega)); (try (have hx2 := Nat.lt_of_succ_le hz2)); (try (have hv2 := Nat.lt_of_succ_le (Nat.le_of_lt hx2))); (try (have hy2_1 : w1.heap.size < w2.heap.size := by omega)))
    go_wp2_with fail
    (go_at_call 35; refine (H.out _).mono ?_; rintro e w3 ⟨rfl, hb3⟩; obtain ⟨hc3, hf3⟩ := bcell hb3; have hz3 := hb3.size; (try simp only [World.size_alloc] at hz3); (try (have hy3 : w.heap.size < w3.heap.size := by omega)); (try (have hx3 := Nat.lt_of_succ_le hz3)); (try (have hv3 := Nat.lt_of_succ_le (Nat.le_of_lt hx3))); (try (have hy3_1 : w1.heap.size < w3.heap.size := by omega)); (try (have hy3_2 : w2.heap.size < w3.heap.size := by omega)))
    obtain ⟨x1, x2, x3, x4, x5⟩ := ((hx.below hb1).below hb2).below hb3
    go_wp2
    refine bodyPost_ret (v := .tuple #[.agg #[.int .i64 U, .int .i64 V], .bool o]) (by simp [results, Try.results83, go_sem, x1, x2]) rfl ⟨rfl, ?_⟩
    (repeat' (first | (with_reducible exact Below.refl _ _) | (with_reducible refine below_step (by assumption) ?_ ?_) | (with_reducible refine Below.alloc ?_ ?_ _) | (with_reducible refine Below.setCell ?_ ?_ _) | (with_reducible refine below_drewN ?_ _) | (with_reducible refine Below.drew ?_) | omega | (simp; omega) | (simp; done)))
  · obtain rfl : m = 0 := by simpa using h0
    have hm0 : mOk (n * e) (d * 0) = false := by unfold mOk; simp
    rw [hm0]
    go_enter Try.func83, Try.ntmps83
    go_wp2_with fail
    (go_at_call 80; refine (c_isFraction _ _ _).mono ?_; rintro e w1 ⟨rfl, hb1⟩; obtain ⟨hc1, hf1⟩ := bcell hb1; have hz1 := hb1.size; (try simp only [World.size_alloc] at hz1); (try (have hy1 : w.heap.size < w1.heap.size := by omega)); (try (have hx1 := Nat.lt_of_succ_le hz1)); (try (have hv1 := Nat.lt_of_succ_le (Nat.le_of_lt hx1))))
    go_wp2_with fail
    (go_at_call 80; refine (c_isFraction _ _ _).mono ?_; rintro e w2 ⟨rfl, hb2⟩; obtain ⟨hc2, hf2⟩ := bcell hb2; have hz2 := hb2.size; (try simp only [World.size_alloc] at hz2); (try (have hy2 : w.heap.size < w2.heap.size := by omega)); (try (have hx2 := Nat.lt_of_succ_le hz2)); (try (have hv2 := Nat.lt_of_succ_le (Nat.le_of_lt hx2))); (try (have hy2_1 : w1.heap.size < w2.heap.size := by omega)))
    obtain ⟨x1, x2, x3, x4, x5⟩ := (hx.below hb1).below hb2
    go_wp2
    refine bodyPost_ret (v := .tuple #[.agg #[.int .i64 0, .int .i64 0], .bool false]) (by simp [results, Try.results83, go_sem, x1, x2]) rfl ⟨rfl, ?_⟩
    (repeat' (first | (with_reducible exact Below.refl _ _) | (with_reducible refine below_step (by assumption) ?_ ?_) | (with_reducible refine Below.alloc ?_ ?_ _) | (with_reducible refine Below.setCell ?_ ?_ _) | (with_reducible refine below_drewN ?_ _) | (with_reducible refine Below.drew ?_) | omega | (simp; omega) | (simp; done)))
set_option maxHeartbeats 1000000 in
theorem c_over (c : Nat) (n d m e : Int) (o : Bool) (hA : frOk n d = true) (hB : frOk m e = true) (w : World) (hc : w.cell? ⟨c, 0, none⟩ = some (.bool o)) (hf : w.frozen? ⟨c, 0, none⟩ = false) (hz : c < w.heap.size) :
    Calls Try.prog 39 #[.pointer (some ⟨c, 0, none⟩), .agg #[.int .i64 n, .int .i64 d], .agg #[.int .i64 m, .int .i64 e]] w fun r w' => r = .returned (.agg #[.int .i64 (if o && mOk (n * e) (d * m) then mkN (n * e) (d * m) else 0), .int .i64 (if o && mOk (n * e) (d * m) then mkD (n * e) (d * m) else 1)]) ∧ Off c w w' ∧ w'.cell? ⟨c, 0, none⟩ = some (.bool (o && mOk (n * e) (d * m))) ∧ w'.frozen? ⟨c, 0, none⟩ = false := by
  have H := Lib.hid (c_QuotientOf n d m e hA hB)
  rw [← kq (mkN (n * e) (d * m)), ← kq (mkD (n * e) (d * m))]
  generalize rsI (mOk (n * e) (d * m)) (mkN (n * e) (d * m)) = U at H ⊢
  generalize rsI (mOk (n * e) (d * m)) (mkD (n * e) (d * m)) = V at H ⊢
  generalize mOk (n * e) (d * m) = ok at H ⊢
  have HK := Lib.hid (c_keep c U V o ok)
  generalize (if (o && ok) = true then U else 0) = U2 at HK ⊢
  generalize (if (o && ok) = true then V else 1) = V2 at HK ⊢
  have hx : Bx (w.heap.size + 1 + 1) (.int .i64 0) (.int .i64 0) (((w.alloc (.cells #[.int .i64 n, .int .i64 d] 25)).alloc (.cells #[.int .i64 m, .int .i64 e] 25)).alloc (.cells #[.int .i64 0, .int .i64 0] 25)) := ⟨by simp [go_sem], by simp [go_sem], by simp [go_sem], by simp [go_sem], by simp⟩
  have hB0 : Below w.heap.size w (((w.alloc (.cells #[.int .i64 n, .int .i64 d] 25)).alloc (.cells #[.int .i64 m, .int .i64 e] 25)).alloc (.cells #[.int .i64 0, .int .i64 0] 25)) := (((Below.refl _ _).alloc (Nat.le_refl _) _).alloc (by simp) _).alloc (by simp; omega) _
  go_enter Try.func39, Try.ntmps39
  go_wp2_with fail
  (go_at_call 83; refine (H.out _).mono ?_; rintro e w1 ⟨rfl, hb1⟩; obtain ⟨hc1, hf1⟩ := bcell hb1; have hz1 := hb1.size; (try simp only [World.size_alloc] at hz1); (try (have hy1 : w.heap.size < w1.heap.size := by omega)); (try (have hx1 := Nat.lt_of_succ_le hz1)); (try (have hv1 := Nat.lt_of_succ_le (Nat.le_of_lt hx1))))
  have hB1 : Below w.heap.size w w1 := below_step hb1 hB0.size hB0
  have hz1 : c < w1.heap.size := Nat.lt_of_lt_of_le hz hB1.size
  go_wp2_with fail
  (go_at_call 34; refine (HK.out _ ((hB1.cell (p := ⟨c, 0, none⟩) hz).trans hc) ((hB1.frozen (p := ⟨c, 0, none⟩) hz).trans hf) hz1).mono ?_; rintro _ w2 ⟨rfl, ho2, hk2, hg2⟩)
  obtain ⟨x1, x2, x3, x4, x5⟩ := (hx.below hb1).off ho2 (by omega)
  go_wp2
  refine bodyPost_ret (v := .agg #[.int .i64 U2, .int .i64 V2]) (by simp [results, Try.results39, go_sem, x1, x2]) rfl ⟨rfl, ?_⟩
  exact off_fin ho2 hB1 (by omega) hk2 hg2
set_option maxHeartbeats 1000000 in
theorem c_whole (c : Nat) (n : Int) (o : Bool) (hn : -4000000000000000000 ≤ n ∧ n ≤ 4000000000000000000) (w : World) (hc : w.cell? ⟨c, 0, none⟩ = some (.bool o)) (hf : w.frozen? ⟨c, 0, none⟩ = false) (hz : c < w.heap.size) :
    Calls Try.prog 36 #[.pointer (some ⟨c, 0, none⟩), .int .i64 n] w fun r w' => r = .returned (.agg #[.int .i64 (if o && mOk n 1 then mkN n 1 else 0), .int .i64 (if o && mOk n 1 then mkD n 1 else 1)]) ∧ Off c w w' ∧ w'.cell? ⟨c, 0, none⟩ = some (.bool (o && mOk n 1)) ∧ w'.frozen? ⟨c, 0, none⟩ = false := by
  have H := Lib.hid (c_makeFraction n 1 (by omega) hn (by omega))
  rw [← kq (mkN n 1), ← kq (mkD n 1)]
  generalize rsI (mOk n 1) (mkN n 1) = U at H ⊢
  generalize rsI (mOk n 1) (mkD n 1) = V at H ⊢
  generalize mOk n 1 = ok at H ⊢
  have HK := Lib.hid (c_keep c U V o ok)
  generalize (if (o && ok) = true then U else 0) = U2 at HK ⊢
  generalize (if (o && ok) = true then V else 1) = V2 at HK ⊢
  have hx : Bx w.heap.size (.int .i64 0) (.int .i64 0) (w.alloc (.cells #[.int .i64 0, .int .i64 0] 25)) := ⟨by simp [go_sem], by simp [go_sem], by simp [go_sem], by simp [go_sem], by simp⟩
  have hB0 : Below w.heap.size w (w.alloc (.cells #[.int .i64 0, .int .i64 0] 25)) := (Below.refl _ _).alloc (Nat.le_refl _) _
  go_enter Try.func36, Try.ntmps36
  go_wp2_with fail
  (go_at_call 35; refine (H.out _).mono ?_; rintro e w1 ⟨rfl, hb1⟩; obtain ⟨hc1, hf1⟩ := bcell hb1; have hz1 := hb1.size; (try simp only [World.size_alloc] at hz1); (try (have hy1 : w.heap.size < w1.heap.size := by omega)); (try (have hx1 := Nat.lt_of_succ_le hz1)); (try (have hv1 := Nat.lt_of_succ_le (Nat.le_of_lt hx1))))
  have hB1 : Below w.heap.size w w1 := below_step hb1 hB0.size hB0
  have hz1 : c < w1.heap.size := Nat.lt_of_lt_of_le hz hB1.size
  go_wp2_with fail
  (go_at_call 34; refine (HK.out _ ((hB1.cell (p := ⟨c, 0, none⟩) hz).trans hc) ((hB1.frozen (p := ⟨c, 0, none⟩) hz).trans hf) hz1).mono ?_; rintro _ w2 ⟨rfl, ho2, hk2, hg2⟩)
  obtain ⟨x1, x2, x3, x4, x5⟩ := (hx.below hb1).off ho2 (by omega)
  go_wp2
  refine bodyPost_ret (v := .agg #[.int .i64 U2, .int .i64 V2]) (by simp [results, Try.results36, go_sem, x1, x2]) rfl ⟨rfl, ?_⟩
  exact off_fin ho2 hB1 (by omega) hk2 hg2
/-! triangles: three fractions -/
def triV (p q r s t u : Int) : Value := .agg #[.int .i64 p, .int .i64 q, .int .i64 r, .int .i64 s, .int .i64 t, .int .i64 u]
def triOk (p q r s t u : Int) : Bool := frOk p q && frOk r s && frOk t u
set_option maxHeartbeats 1000000 in
theorem c_cnSides (p q r s t u : Int) (w : World) :
    Calls Try.prog 54 #[.agg #[.int .i64 p, .int .i64 q, .int .i64 r, .int .i64 s, .int .i64 t, .int .i64 u]] w fun e w' => e = .returned (.bool (triOk p q r s t u)) ∧ Below w.heap.size w w' := by
  unfold triOk
  cases h1 : frOk p q
  · go_enter Try.func54, Try.ntmps54
    go_wp2_with ((go_at_call 74; refine (c_frGood _ _ _).mono ?_; rintro e w1 ⟨rfl, hb1⟩; obtain ⟨hc1, hf1⟩ := bcell hb1; have hz1 := hb1.size; (try simp only [World.size_alloc] at hz1); (try (have hy1 : w.heap.size < w1.heap.size := by omega)); (try (have hx1 := Nat.lt_of_succ_le hz1)); (try (have hv1 := Nat.lt_of_succ_le (Nat.le_of_lt hx1)))))
    go_ret
    refine ⟨rfl, ?_⟩
    (repeat' (first | (with_reducible exact Below.refl _ _) | (with_reducible refine below_step (by assumption) ?_ ?_) | (with_reducible refine Below.alloc ?_ ?_ _) | (with_reducible refine Below.setCell ?_ ?_ _) | (with_reducible refine below_drewN ?_ _) | (with_reducible refine Below.drew ?_) | omega | (simp; omega) | (simp; done)))
  · cases h2 : frOk r s
    · go_enter Try.func54, Try.ntmps54
      go_wp2_with fail
      (go_at_call 74; refine (c_frGood _ _ _).mono ?_; rintro e w1 ⟨rfl, hb1⟩; obtain ⟨hc1, hf1⟩ := bcell hb1; have hz1 := hb1.size; (try simp only [World.size_alloc] at hz1); (try (have hy1 : w.heap.size < w1.heap.size := by omega)); (try (have hx1 := Nat.lt_of_succ_le hz1)); (try (have hv1 := Nat.lt_of_succ_le (Nat.le_of_lt hx1))))
      go_wp2_with fail
      (go_at_call 74; refine (c_frGood _ _ _).mono ?_; rintro e w2 ⟨rfl, hb2⟩; obtain ⟨hc2, hf2⟩ := bcell hb2; have hz2 := hb2.size; (try simp only [World.size_alloc] at hz2); (try (have hy2 : w.heap.size < w2.heap.size := by omega)); (try (have hx2 := Nat.lt_of_succ_le hz2)); (try (have hv2 := Nat.lt_of_succ_le (Nat.le_of_lt hx2))); (try (have hy2_1 : w1.heap.size < w2.heap.size := by omega)))
      go_wp2
      go_ret
      refine ⟨rfl, ?_⟩
      (repeat' (first | (with_reducible exact Below.refl _ _) | (with_reducible refine below_step (by assumption) ?_ ?_) | (with_reducible refine Below.alloc ?_ ?_ _) | (with_reducible refine Below.setCell ?_ ?_ _) | (with_reducible refine below_drewN ?_ _) | (with_reducible refine Below.drew ?_) | omega | (simp; omega) | (simp; done)))
    · go_enter Try.func54, Try.ntmps54
      go_wp2_with fail
      (go_at_call 74; refine (c_frGood _ _ _).mono ?_; rintro e w1 ⟨rfl, hb1⟩; obtain ⟨hc1, hf1⟩ := bcell hb1; have hz1 := hb1.size; (try simp only [World.size_alloc] at hz1); (try (have hy1 : w.heap.size < w1.heap.size := by omega)); (try (have hx1 := Nat.lt_of_succ_le hz1)); (try (have hv1 := Nat.lt_of_succ_le (Nat.le_of_lt hx1))))
      go_wp2_with fail
      (go_at_call 74; refine (c_frGood _ _ _).mono ?_; rintro e w2 ⟨rfl, hb2⟩; obtain ⟨hc2, hf2⟩ := bcell hb2; have hz2 := hb2.size; (try simp only [World.size_alloc] at hz2); (try (have hy2 : w.heap.size < w2.heap.size := by omega)); (try (have hx2 := Nat.lt_of_succ_le hz2)); (try (have hv2 := Nat.lt_of_succ_le (Nat.le_of_lt hx2))); (try (have hy2_1 : w1.heap.size < w2.heap.size := by omega)))
      go_wp2_with fail
      (go_at_call 74; refine (c_frGood _ _ _).mono ?_; rintro e w3 ⟨rfl, hb3⟩; obtain ⟨hc3, hf3⟩ := bcell hb3; have hz3 := hb3.size; (try simp only [World.size_alloc] at hz3); (try (have hy3 : w.heap.size < w3.heap.size := by omega)); (try (have hx3 := Nat.lt_of_succ_le hz3)); (try (have hv3 := Nat.lt_of_succ_le (Nat.le_of_lt hx3))); (try (have hy3_1 : w1.heap.size < w3.heap.size := by omega)); (try (have hy3_2 : w2.heap.size < w3.heap.size := by omega)))
      go_wp2
      go_ret
      refine ⟨rfl, ?_⟩
      (repeat' (first | (with_reducible exact Below.refl _ _) | (with_reducible refine below_step (by assumption) ?_ ?_) | (with_reducible refine Below.alloc ?_ ?_ _) | (with_reducible refine Below.setCell ?_ ?_ _) | (with_reducible refine below_drewN ?_ _) | (with_reducible refine Below.drew ?_) | omega | (simp; omega) | (simp; done)))
set_option maxHeartbeats 1000000 in
theorem c_triangleFits (p q r s t u : Int) (w : World) :
    Calls Try.prog 44 #[.agg #[.int .i64 p, .int .i64 q, .int .i64 r, .int .i64 s, .int .i64 t, .int .i64 u]] w fun e w' => e = .returned (.bool (triOk p q r s t u)) ∧ Below w.heap.size w w' := by
  unfold triOk
  cases h1 : frOk p q
  · go_enter Try.func44, Try.ntmps44
    go_wp2_with ((go_at_call 80; refine (c_isFraction _ _ _).mono ?_; rintro e w1 ⟨rfl, hb1⟩; obtain ⟨hc1, hf1⟩ := bcell hb1; have hz1 := hb1.size; (try simp only [World.size_alloc] at hz1); (try (have hy1 : w.heap.size < w1.heap.size := by omega)); (try (have hx1 := Nat.lt_of_succ_le hz1)); (try (have hv1 := Nat.lt_of_succ_le (Nat.le_of_lt hx1)))))
    go_ret
    refine ⟨rfl, ?_⟩
    (repeat' (first | (with_reducible exact Below.refl _ _) | (with_reducible refine below_step (by assumption) ?_ ?_) | (with_reducible refine Below.alloc ?_ ?_ _) | (with_reducible refine Below.setCell ?_ ?_ _) | (with_reducible refine below_drewN ?_ _) | (with_reducible refine Below.drew ?_) | omega | (simp; omega) | (simp; done)))
  · cases h2 : frOk r s
    · go_enter Try.func44, Try.ntmps44
      go_wp2_with fail
      (go_at_call 80; refine (c_isFraction _ _ _).mono ?_; rintro e w1 ⟨rfl, hb1⟩; obtain ⟨hc1, hf1⟩ := bcell hb1; have hz1 := hb1.size; (try simp only [World.size_alloc] at hz1); (try (have hy1 : w.heap.size < w1.heap.size := by omega)); (try (have hx1 := Nat.lt_of_succ_le hz1)); (try (have hv1 := Nat.lt_of_succ_le (Nat.le_of_lt hx1))))
      go_wp2_with fail
      (go_at_call 80; refine (c_isFraction _ _ _).mono ?_; rintro e w2 ⟨rfl, hb2⟩; obtain ⟨hc2, hf2⟩ := bcell hb2; have hz2 := hb2.size; (try simp only [World.size_alloc] at hz2); (try (have hy2 : w.heap.size < w2.heap.size := by omega)); (try (have hx2 := Nat.lt_of_succ_le hz2)); (try (have hv2 := Nat.lt_of_succ_le (Nat.le_of_lt hx2))); (try (have hy2_1 : w1.heap.size < w2.heap.size := by omega)))
      go_wp2
      go_ret
      refine ⟨rfl, ?_⟩
      (repeat' (first | (with_reducible exact Below.refl _ _) | (with_reducible refine below_step (by assumption) ?_ ?_) | (with_reducible refine Below.alloc ?_ ?_ _) | (with_reducible refine Below.setCell ?_ ?_ _) | (with_reducible refine below_drewN ?_ _) | (with_reducible refine Below.drew ?_) | omega | (simp; omega) | (simp; done)))
    · go_enter Try.func44, Try.ntmps44
      go_wp2_with fail
      (go_at_call 80; refine (c_isFraction _ _ _).mono ?_; rintro e w1 ⟨rfl, hb1⟩; obtain ⟨hc1, hf1⟩ := bcell hb1; have hz1 := hb1.size; (try simp only [World.size_alloc] at hz1); (try (have hy1 : w.heap.size < w1.heap.size := by omega)); (try (have hx1 := Nat.lt_of_succ_le hz1)); (try (have hv1 := Nat.lt_of_succ_le (Nat.le_of_lt hx1))))
      go_wp2_with fail
      (go_at_call 80; refine (c_isFraction _ _ _).mono ?_; rintro e w2 ⟨rfl, hb2⟩; obtain ⟨hc2, hf2⟩ := bcell hb2; have hz2 := hb2.size; (try simp only [World.size_alloc] at hz2); (try (have hy2 : w.heap.size < w2.heap.size := by omega)); (try (have hx2 := Nat.lt_of_succ_le hz2)); (try (have hv2 := Nat.lt_of_succ_le (Nat.le_of_lt hx2))); (try (have hy2_1 : w1.heap.size < w2.heap.size := by omega)))
      go_wp2_with fail
      (go_at_call 80; refine (c_isFraction _ _ _).mono ?_; rintro e w3 ⟨rfl, hb3⟩; obtain ⟨hc3, hf3⟩ := bcell hb3; have hz3 := hb3.size; (try simp only [World.size_alloc] at hz3); (try (have hy3 : w.heap.size < w3.heap.size := by omega)); (try (have hx3 := Nat.lt_of_succ_le hz3)); (try (have hv3 := Nat.lt_of_succ_le (Nat.le_of_lt hx3))); (try (have hy3_1 : w1.heap.size < w3.heap.size := by omega)); (try (have hy3_2 : w2.heap.size < w3.heap.size := by omega)))
      go_wp2
      go_ret
      refine ⟨rfl, ?_⟩
      (repeat' (first | (with_reducible exact Below.refl _ _) | (with_reducible refine below_step (by assumption) ?_ ?_) | (with_reducible refine Below.alloc ?_ ?_ _) | (with_reducible refine Below.setCell ?_ ?_ _) | (with_reducible refine below_drewN ?_ _) | (with_reducible refine Below.drew ?_) | omega | (simp; omega) | (simp; done)))
end Go.Proofs.Ytcnfjapoopdiaaa
