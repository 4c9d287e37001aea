/- The law IsTriangle: its walk. -/
import Derived.Test.YtcnfjapoopdiaaaIsI
namespace Go.Proofs.Ytcnfjapoopdiaaa
open Go.RowKit

def tOk (p q r s t u : Int) : Bool := mOk (p * p) (q * q) && mOk (r * r) (s * s) && mOk (t * t) (u * u) && mOk (p * r) (q * s) && mOk (mkN (p * p) (q * q) * mkD (r * r) (s * s) + mkN (r * r) (s * s) * mkD (p * p) (q * q)) (mkD (p * p) (q * q) * mkD (r * r) (s * s))
def tIs (n p q r s t u : Int) : Bool := isB n p t (mkN (mkN (p * p) (q * q) * mkD (r * r) (s * s) + mkN (r * r) (s * s) * mkD (p * p) (q * q)) (mkD (p * p) (q * q) * mkD (r * r) (s * s))) (mkD (mkN (p * p) (q * q) * mkD (r * r) (s * s) + mkN (r * r) (s * s) * mkD (p * p) (q * q)) (mkD (p * p) (q * q) * mkD (r * r) (s * s))) (mkN (t * t) (u * u)) (mkD (t * t) (u * u)) (mkN (p * r) (q * s)) (mkD (p * r) (q * s)) (decide (p * s < r * q))
theorem fr_if {o : Bool} {n d : Int} : frOk (if o && mOk n d then mkN n d else 0) (if o && mOk n d then mkD n d else 1) = true := by
  cases h : (o && mOk n d)
  · show frOk 0 1 = true
    decide
  · simp only [Bool.and_eq_true] at h
    simpa using mOk_fr h.2
theorem mk_one {n : Int} (h : -1000000000 ≤ n ∧ n ≤ 1000000000) : mOk n 1 = true ∧ mkN n 1 = n ∧ mkD n 1 = 1 := by
  have hg : gcdI n 1 = 1 := by simp [gcdI]
  have h1 : mkG n 1 = 1 := by unfold mkG; rw [hg]; rfl
  have h2 : mkN n 1 = n := by unfold mkN; rw [h1]; simp
  have h3 : mkD n 1 = 1 := by unfold mkD; rw [h1]; rfl
  refine ⟨?_, h2, h3⟩
  unfold mOk mkOk
  rw [h2, h3]
  unfold frOk
  rw [hg]
  unfold inB
  simp [h.1, h.2]
theorem triOk_of {p q r s t u : Int} (h : triOk p q r s t u = true) : frOk p q = true ∧ frOk r s = true ∧ frOk t u = true := by
  unfold triOk at h
  simp only [Bool.and_eq_true] at h
  exact ⟨h.1.1, h.1.2, h.2⟩
theorem areaB_of {n : Int} (h : areaB n = true) : 1 ≤ n ∧ n ≤ 31 := by
  unfold areaB at h
  simp only [Bool.and_eq_true] at h
  exact inB_true h.1
theorem isB_rs (n p t N3 D3 N4 D4 N5 D5 : Int) (M1 M2 M3 M4 M5 L : Bool) : (M1 && M2 && M3 && M4 && M5 && isB n p t (rsI M5 N5) (rsI M5 D5) (rsI M3 N3) (rsI M3 D3) (rsI M4 N4) (rsI M4 D4) L) = (M1 && M2 && M3 && M4 && M5 && isB n p t N5 D5 N3 D3 N4 D4 L) := by
  cases M3 <;> cases M4 <;> cases M5 <;> simp [rsI]
theorem mul_fr {n d : Int} (h : frOk n d = true) : frOk (rsI true n) (rsI true d) = true := h
theorem c_cnIs (n p q r s t u : Int) (hn : 1 ≤ n ∧ n ≤ 31) (h : triOk p q r s t u = true) (w : World) :
    Calls Try.prog 55 #[.int .i64 n, .agg #[.int .i64 p, .int .i64 q, .int .i64 r, .int .i64 s, .int .i64 t, .int .i64 u]] w fun e w' => e = .returned (.tuple #[.bool (tOk p q r s t u && tIs n p q r s t u), .bool (tOk p q r s t u)]) ∧ Below w.heap.size w w' := by
  obtain ⟨hA, hB, hC⟩ := triOk_of h
  have h1 := c_frMul p q p q hA hA
  have h2 := c_frMul r s r s hB hB
  have h3 := c_frMul t u t u hC hC
  have h4 := c_frMul p q r s hA hB
  have h5 := fun (x : mOk (p * p) (q * q) = true) (y : mOk (r * r) (s * s) = true) => c_frAdd (mkN (p * p) (q * q)) (mkD (p * p) (q * q)) (mkN (r * r) (s * s)) (mkD (r * r) (s * s)) (mOk_fr x) (mOk_fr y)
  unfold tOk tIs
  generalize mkN (p * p) (q * q) = N1 at *
  generalize mkD (p * p) (q * q) = D1 at *
  generalize mOk (p * p) (q * q) = M1 at *
  generalize mkN (r * r) (s * s) = N2 at *
  generalize mkD (r * r) (s * s) = D2 at *
  generalize mOk (r * r) (s * s) = M2 at *
  generalize mkN (t * t) (u * u) = N3 at *
  generalize mkD (t * t) (u * u) = D3 at *
  generalize mOk (t * t) (u * u) = M3 at *
  generalize mkN (p * r) (q * s) = N4 at *
  generalize mkD (p * r) (q * s) = D4 at *
  generalize mOk (p * r) (q * s) = M4 at *
  have H5 : Hid (M1 = true → M2 = true → ∀ w : World, Calls Try.prog 48 #[.agg #[.int .i64 (rsI M1 N1), .int .i64 (rsI M1 D1)], .agg #[.int .i64 (rsI M2 N2), .int .i64 (rsI M2 D2)]] w fun r w' => r = .returned (.tuple #[.agg #[.int .i64 (rsI (mOk (N1 * D2 + N2 * D1) (D1 * D2)) (mkN (N1 * D2 + N2 * D1) (D1 * D2))), .int .i64 (rsI (mOk (N1 * D2 + N2 * D1) (D1 * D2)) (mkD (N1 * D2 + N2 * D1) (D1 * D2)))], .bool (mOk (N1 * D2 + N2 * D1) (D1 * D2))]) ∧ Below w.heap.size w w') := by
    rintro rfl rfl
    exact h5 rfl rfl
  generalize mkN (N1 * D2 + N2 * D1) (D1 * D2) = N5 at *
  generalize mkD (N1 * D2 + N2 * D1) (D1 * D2) = D5 at *
  generalize mOk (N1 * D2 + N2 * D1) (D1 * D2) = M5 at *
  rw [← isB_rs n p t N3 D3 N4 D4 N5 D5 M1 M2 M3 M4 M5]
  exact c_cnIs_of n p q r s t u _ _ _ _ _ _ _ _ _ _ M1 M2 M3 M4 M5 _ hn (Lib.hid h1) (Lib.hid h2) (Lib.hid h3) (Lib.hid h4) H5 (Lib.hid (c_frLess p q r s hA hB)) w
theorem c_isTriangle (n p q r s t u : Int) (hn : 1 ≤ n ∧ n ≤ 31) (h : triOk p q r s t u = true) (w : World) :
    Calls Try.prog 45 #[.int .i64 n, .agg #[.int .i64 p, .int .i64 q, .int .i64 r, .int .i64 s, .int .i64 t, .int .i64 u]] w fun e w' => e = .returned (.tuple #[.bool (tOk p q r s t u && tIs n p q r s t u), .bool (tOk p q r s t u)]) ∧ Below w.heap.size w w' := by
  obtain ⟨hA, hB, hC⟩ := triOk_of h
  have h1 := k_times p q p q true hA hA
  have h2 := k_times r s r s (true && mOk (p * p) (q * q)) hB hB
  have h5 := k_plus _ _ _ _ (true && mOk (p * p) (q * q) && mOk (r * r) (s * s)) (fr_if (o := true) (n := p * p) (d := q * q)) (fr_if (o := true && mOk (p * p) (q * q)) (n := r * r) (d := s * s))
  have h3 := fun o => k_times t u t u o hC hC
  have h4 := fun o => k_times p q r s o hA hB
  have h6 := c_IsLess p q r s hA hB
  obtain ⟨m1, m2, m3⟩ := mk_one (n := 2 * n) (by omega)
  have h7 := k_whole (2 * n) true (by omega)
  rw [m1, m2, m3] at h7
  unfold tOk tIs
  generalize mkN (p * p) (q * q) = N1 at *
  generalize mkD (p * p) (q * q) = D1 at *
  generalize mOk (p * p) (q * q) = M1 at *
  generalize mkN (r * r) (s * s) = N2 at *
  generalize mkD (r * r) (s * s) = D2 at *
  generalize mOk (r * r) (s * s) = M2 at *
  generalize mkN (t * t) (u * u) = N3 at *
  generalize mkD (t * t) (u * u) = D3 at *
  generalize mOk (t * t) (u * u) = M3 at *
  generalize mkN (p * r) (q * s) = N4 at *
  generalize mkD (p * r) (q * s) = D4 at *
  generalize mOk (p * r) (q * s) = M4 at *
  generalize decide (p * s < r * q) = L at *
  refine (c_isTriangle_of n p q r s t u _ _ _ _ _ _ _ _ _ _ _ _ _ _ _ L hn (Lib.hid h1) (Lib.hid h2) (Lib.hid h5) (Lib.hid (h3 _)) (Lib.hid (h4 _)) (Lib.hid h6) (Lib.hid h7) w).mono ?_
  rintro e w' ⟨rfl, hb⟩
  refine ⟨?_, hb⟩
  cases M1 <;> cases M2 <;> simp
  cases mOk (N1 * D2 + N2 * D1) (D1 * D2) <;> cases M3 <;> cases M4 <;> simp
noncomputable def itOk (n p q r s t u : Int) : Bool := areaB n && triOk p q r s t u && tOk p q r s t u
theorem c_sIsTriangle (n p q r s t u : Int) (w : World) :
    Calls Try.prog 13 #[.int .i64 n, .agg #[.int .i64 p, .int .i64 q, .int .i64 r, .int .i64 s, .int .i64 t, .int .i64 u]] w fun e w' => e = .returned (.tuple #[.bool (itOk n p q r s t u && tIs n p q r s t u), .bool (itOk n p q r s t u)]) ∧ Below w.heap.size w w' := by
  unfold itOk
  cases ha : areaB n
  · go_enter Try.func13, Try.ntmps13
    go_wp2_with ((go_at_call 27; refine (c_cnGood _ _).mono ?_; rintro e w1 ⟨rfl, hb1⟩; obtain ⟨hc1, hf1⟩ := bcell hb1; have hz1 := hb1.size; (try simp only [World.size_alloc] at hz1); (try (have hy1 : w.heap.size < w1.heap.size := by omega)); (try (have hx1 := Nat.lt_of_succ_le hz1)); (try (have hv1 := Nat.lt_of_succ_le (Nat.le_of_lt hx1)))))
    go_ret2
    refine ⟨by simp, ?_⟩
    (repeat' (first | (with_reducible exact Below.refl _ _) | (with_reducible refine below_step (by assumption) ?_ ?_) | (with_reducible refine Below.alloc ?_ ?_ _) | (with_reducible refine Below.setCell ?_ ?_ _) | (with_reducible refine below_drewN ?_ _) | (with_reducible refine Below.drew ?_) | omega | (simp; omega) | (simp; done)))
  · cases ht : triOk p q r s t u
    · go_enter Try.func13, Try.ntmps13
      go_wp2_with fail
      (go_at_call 27; refine (c_cnGood _ _).mono ?_; rintro e w1 ⟨rfl, hb1⟩; obtain ⟨hc1, hf1⟩ := bcell hb1; have hz1 := hb1.size; (try simp only [World.size_alloc] at hz1); (try (have hy1 : w.heap.size < w1.heap.size := by omega)); (try (have hx1 := Nat.lt_of_succ_le hz1)); (try (have hv1 := Nat.lt_of_succ_le (Nat.le_of_lt hx1))))
      go_wp2_with fail
      (go_at_call 54; refine (c_cnSides _ _ _ _ _ _ _).mono ?_; rintro e w2 ⟨rfl, hb2⟩; obtain ⟨hc2, hf2⟩ := bcell hb2; have hz2 := hb2.size; (try simp only [World.size_alloc] at hz2); (try (have hy2 : w.heap.size < w2.heap.size := by omega)); (try (have hx2 := Nat.lt_of_succ_le hz2)); (try (have hv2 := Nat.lt_of_succ_le (Nat.le_of_lt hx2))); (try (have hy2_1 : w1.heap.size < w2.heap.size := by omega)))
      go_wp2
      go_ret2
      refine ⟨by simp, ?_⟩
      (repeat' (first | (with_reducible exact Below.refl _ _) | (with_reducible refine below_step (by assumption) ?_ ?_) | (with_reducible refine Below.alloc ?_ ?_ _) | (with_reducible refine Below.setCell ?_ ?_ _) | (with_reducible refine below_drewN ?_ _) | (with_reducible refine Below.drew ?_) | omega | (simp; omega) | (simp; done)))
    · have H := Lib.hid (c_cnIs n p q r s t u (areaB_of ha) ht)
      generalize tOk p q r s t u = o at H ⊢
      generalize tIs n p q r s t u = i at H ⊢
      go_enter Try.func13, Try.ntmps13
      go_wp2_with fail
      (go_at_call 27; refine (c_cnGood _ _).mono ?_; rintro e w1 ⟨rfl, hb1⟩; obtain ⟨hc1, hf1⟩ := bcell hb1; have hz1 := hb1.size; (try simp only [World.size_alloc] at hz1); (try (have hy1 : w.heap.size < w1.heap.size := by omega)); (try (have hx1 := Nat.lt_of_succ_le hz1)); (try (have hv1 := Nat.lt_of_succ_le (Nat.le_of_lt hx1))))
      go_wp2_with fail
      (go_at_call 54; refine (c_cnSides _ _ _ _ _ _ _).mono ?_; rintro e w2 ⟨rfl, hb2⟩; obtain ⟨hc2, hf2⟩ := bcell hb2; have hz2 := hb2.size; (try simp only [World.size_alloc] at hz2); (try (have hy2 : w.heap.size < w2.heap.size := by omega)); (try (have hx2 := Nat.lt_of_succ_le hz2)); (try (have hv2 := Nat.lt_of_succ_le (Nat.le_of_lt hx2))); (try (have hy2_1 : w1.heap.size < w2.heap.size := by omega)))
      go_wp2_with fail
      (go_at_call 55; refine (H.out _).mono ?_; rintro e w3 ⟨rfl, hb3⟩; obtain ⟨hc3, hf3⟩ := bcell hb3; have hz3 := hb3.size; (try simp only [World.size_alloc] at hz3); (try (have hy3 : w.heap.size < w3.heap.size := by omega)); (try (have hx3 := Nat.lt_of_succ_le hz3)); (try (have hv3 := Nat.lt_of_succ_le (Nat.le_of_lt hx3))); (try (have hy3_1 : w1.heap.size < w3.heap.size := by omega)); (try (have hy3_2 : w2.heap.size < w3.heap.size := by omega)))
      go_wp2
      go_ret2
      refine ⟨by simp, ?_⟩
      (repeat' (first | (with_reducible exact Below.refl _ _) | (with_reducible refine below_step (by assumption) ?_ ?_) | (with_reducible refine Below.alloc ?_ ?_ _) | (with_reducible refine Below.setCell ?_ ?_ _) | (with_reducible refine below_drewN ?_ _) | (with_reducible refine Below.drew ?_) | omega | (simp; omega) | (simp; done)))
theorem c_iIsTriangle (n p q r s t u : Int) (w : World) :
    Calls Try.prog 12 #[.int .i64 n, .agg #[.int .i64 p, .int .i64 q, .int .i64 r, .int .i64 s, .int .i64 t, .int .i64 u]] w fun e w' => e = .returned (.tuple #[.bool (itOk n p q r s t u && tIs n p q r s t u), .bool (itOk n p q r s t u)]) ∧ Below w.heap.size w w' := by
  unfold itOk
  cases ha : areaB n
  · go_enter Try.func12, Try.ntmps12
    go_wp2_with ((go_at_call 32; refine (c_isArea _ _).mono ?_; rintro e w1 ⟨rfl, hb1⟩; obtain ⟨hc1, hf1⟩ := bcell hb1; have hz1 := hb1.size; (try simp only [World.size_alloc] at hz1); (try (have hy1 : w.heap.size < w1.heap.size := by omega)); (try (have hx1 := Nat.lt_of_succ_le hz1)); (try (have hv1 := Nat.lt_of_succ_le (Nat.le_of_lt hx1)))))
    go_ret2
    refine ⟨by simp, ?_⟩
    (repeat' (first | (with_reducible exact Below.refl _ _) | (with_reducible refine below_step (by assumption) ?_ ?_) | (with_reducible refine Below.alloc ?_ ?_ _) | (with_reducible refine Below.setCell ?_ ?_ _) | (with_reducible refine below_drewN ?_ _) | (with_reducible refine Below.drew ?_) | omega | (simp; omega) | (simp; done)))
  · cases ht : triOk p q r s t u
    · go_enter Try.func12, Try.ntmps12
      go_wp2_with fail
      (go_at_call 32; refine (c_isArea _ _).mono ?_; rintro e w1 ⟨rfl, hb1⟩; obtain ⟨hc1, hf1⟩ := bcell hb1; have hz1 := hb1.size; (try simp only [World.size_alloc] at hz1); (try (have hy1 : w.heap.size < w1.heap.size := by omega)); (try (have hx1 := Nat.lt_of_succ_le hz1)); (try (have hv1 := Nat.lt_of_succ_le (Nat.le_of_lt hx1))))
      go_wp2_with fail
      (go_at_call 44; refine (c_triangleFits _ _ _ _ _ _ _).mono ?_; rintro e w2 ⟨rfl, hb2⟩; obtain ⟨hc2, hf2⟩ := bcell hb2; have hz2 := hb2.size; (try simp only [World.size_alloc] at hz2); (try (have hy2 : w.heap.size < w2.heap.size := by omega)); (try (have hx2 := Nat.lt_of_succ_le hz2)); (try (have hv2 := Nat.lt_of_succ_le (Nat.le_of_lt hx2))); (try (have hy2_1 : w1.heap.size < w2.heap.size := by omega)))
      go_wp2
      go_ret2
      refine ⟨by simp, ?_⟩
      (repeat' (first | (with_reducible exact Below.refl _ _) | (with_reducible refine below_step (by assumption) ?_ ?_) | (with_reducible refine Below.alloc ?_ ?_ _) | (with_reducible refine Below.setCell ?_ ?_ _) | (with_reducible refine below_drewN ?_ _) | (with_reducible refine Below.drew ?_) | omega | (simp; omega) | (simp; done)))
    · have H := Lib.hid (c_isTriangle n p q r s t u (areaB_of ha) ht)
      generalize tOk p q r s t u = o at H ⊢
      generalize tIs n p q r s t u = i at H ⊢
      go_enter Try.func12, Try.ntmps12
      go_wp2_with fail
      (go_at_call 32; refine (c_isArea _ _).mono ?_; rintro e w1 ⟨rfl, hb1⟩; obtain ⟨hc1, hf1⟩ := bcell hb1; have hz1 := hb1.size; (try simp only [World.size_alloc] at hz1); (try (have hy1 : w.heap.size < w1.heap.size := by omega)); (try (have hx1 := Nat.lt_of_succ_le hz1)); (try (have hv1 := Nat.lt_of_succ_le (Nat.le_of_lt hx1))))
      go_wp2_with fail
      (go_at_call 44; refine (c_triangleFits _ _ _ _ _ _ _).mono ?_; rintro e w2 ⟨rfl, hb2⟩; obtain ⟨hc2, hf2⟩ := bcell hb2; have hz2 := hb2.size; (try simp only [World.size_alloc] at hz2); (try (have hy2 : w.heap.size < w2.heap.size := by omega)); (try (have hx2 := Nat.lt_of_succ_le hz2)); (try (have hv2 := Nat.lt_of_succ_le (Nat.le_of_lt hx2))); (try (have hy2_1 : w1.heap.size < w2.heap.size := by omega)))
      go_wp2_with fail
      (go_at_call 45; refine (H.out _).mono ?_; rintro e w3 ⟨rfl, hb3⟩; obtain ⟨hc3, hf3⟩ := bcell hb3; have hz3 := hb3.size; (try simp only [World.size_alloc] at hz3); (try (have hy3 : w.heap.size < w3.heap.size := by omega)); (try (have hx3 := Nat.lt_of_succ_le hz3)); (try (have hv3 := Nat.lt_of_succ_le (Nat.le_of_lt hx3))); (try (have hy3_1 : w1.heap.size < w3.heap.size := by omega)); (try (have hy3_2 : w2.heap.size < w3.heap.size := by omega)))
      go_wp2
      go_ret2
      refine ⟨by simp, ?_⟩
      (repeat' (first | (with_reducible exact Below.refl _ _) | (with_reducible refine below_step (by assumption) ?_ ?_) | (with_reducible refine Below.alloc ?_ ?_ _) | (with_reducible refine Below.setCell ?_ ?_ _) | (with_reducible refine below_drewN ?_ _) | (with_reducible refine Below.drew ?_) | omega | (simp; omega) | (simp; done)))
end Go.Proofs.Ytcnfjapoopdiaaa
