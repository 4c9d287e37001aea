/- Plain: both sides of PointOfTriangle answer alike. -/
import Derived.Test.YtahjlgbhgaeioaaPotS
import Derived.Test.YtahjlgbhgaeioaaPotI
import Derived.Test.YtahjlgbhgaeioaaStp
namespace Go.Proofs.Ytahjlgbhgaeioaa
open Go.RowKit

theorem potP_congr {w w1 : World} {a b c a' b' c' : Int} {o o' : Bool} {x : Ending} (ho : o = o') (h : o = true → a = a' ∧ b = b' ∧ c = c') (k : potP w a b c o x w1) : potP w a' b' c' o' x w1 := by
  subst ho
  cases o
  · exact k
  · obtain ⟨rfl, rfl, rfl⟩ := h rfl
    exact k
theorem rtI_bd {n : Int} (h : 0 ≤ n ∧ n ≤ 1000000000) : 0 ≤ rtI n ∧ rtI n ≤ 40000 := ⟨rtI_nonneg n, by have := rtI_le h.1 (show (0 : Int) ≤ 40000 by omega) (by omega); omega⟩
theorem pot_guard {n a5 b5 a6 b6 : Int} (h5 : 1 ≤ b5) : (sqB b5 && decide ((if sqB b5 then rtI b5 else 0) ≤ 20) && (b6 == (if sqB b5 then rtI b5 else 0) * (if sqB b5 then rtI b5 else 0) * (if sqB b5 then rtI b5 else 0)) && ptF (-n * n) 0 a5 a6 (if sqB b5 then rtI b5 else 0)) = ((rtI b5 * rtI b5 == b5) && inB (rtI b5) 1 20 && (rtI b5 * rtI b5 * rtI b5 == b6) && ptF (congA n) 0 a5 a6 (rtI b5)) := by
  have hS : (rtI b5 * rtI b5 == b5) = sqB b5 := rfl
  rw [hS]
  cases hs : sqB b5
  · simp
  · rw [if_pos rfl]
    have h2 : rtI b5 * rtI b5 = b5 := by simpa [sqB] using hs
    have h0 := rtI_nonneg b5
    have h1 : 1 ≤ rtI b5 := by
      rcases Int.lt_or_le (rtI b5) 1 with h | h
      · have : rtI b5 = 0 := by omega
        rw [this] at h2
        omega
      · exact h
    have hi : inB (rtI b5) 1 20 = decide (rtI b5 ≤ 20) := by unfold inB; rw [decide_eq_true h1, Bool.true_and]
    have hc : (b6 == rtI b5 * rtI b5 * rtI b5) = (rtI b5 * rtI b5 * rtI b5 == b6) := by
      by_cases h : rtI b5 * rtI b5 * rtI b5 = b6
      · rw [h]
      · rw [beq_false_of_ne h, beq_false_of_ne (Ne.symm h)]
    rw [hi, hc]
    rfl
theorem pot_both (n p q r s t u : Int) (hv : vlB n p q r s t u = true) : ∃ (a b c : Int) (o : Bool),
    (∀ w : World, Calls Try.prog 4 #[.int .i64 n, .agg #[.int .i64 p, .int .i64 q, .int .i64 r, .int .i64 s, .int .i64 t, .int .i64 u]] w (potP w a b c o)) ∧
    (∀ w : World, Calls Try.prog 6 #[.int .i64 n, .agg #[.int .i64 p, .int .i64 q, .int .i64 r, .int .i64 s, .int .i64 t, .int .i64 u]] w (potP w a b c o)) := by
  obtain ⟨i1, i2, -, -⟩ := vlB_of hv
  have hn := areaB_b3 i1
  obtain ⟨fA, fB, fC⟩ := triOk_of i2
  clear i1 i2
  have hnn : 1 ≤ n * n ∧ n * n ≤ 961 := ⟨by have := Int.mul_le_mul hn.1 hn.1 (by omega) (by omega); omega, by have := Int.mul_le_mul hn.2 hn.2 (by omega) (by omega); omega⟩
  have hm : 2 * n * n = 2 * (n * n) := Int.mul_assoc 2 n n
  have hfn : frOk n 1 = true := by have := mk_one (n := n) (by omega); have h := mOk_fr this.1; rw [this.2.1, this.2.2] at h; exact h
  have hf2 : frOk (2 * n * n) 1 = true := by have := mk_one (n := 2 * n * n) (by omega); have h := mOk_fr this.1; rw [this.2.1, this.2.2] at h; exact h
  -- the reference's steps
  obtain ⟨a1, b1, m1, h1, s1, v1, r1⟩ := ts_frAdd p q t u true (fun _ => fA) (fun _ => fC)
  obtain ⟨a2, b2, m2, h2, s2, v2, r2⟩ := ts_frMul r s r s true (fun _ => fB) (fun _ => fB)
  obtain ⟨a3, b3, m3, h3, s3, v3, r3⟩ := ts_frMul n 1 a1 b1 m1 (fun _ => hfn) (fun h => (v1 rfl h).1)
  obtain ⟨a4, b4, m4, h4, s4, v4, r4⟩ := ts_frMul (2 * n * n) 1 a1 b1 m1 (fun _ => hf2) (fun h => (v1 rfl h).1)
  obtain ⟨a5, b5, m5, h5, s5, v5, r5⟩ := ts_frDiv a3 b3 r s m3 (fun h => (v3 (r3 h) h).1) (fun _ => fB)
  obtain ⟨a6, b6, m6, h6, s6, v6, r6⟩ := ts_frDiv a4 b4 a2 b2 (m2 && m4) (fun h => (v4 (r4 (and_r h)) (and_r h)).1) (fun h => (v2 rfl (and_l h)).1)
  obtain ⟨e, he⟩ : ∃ e, e = if m5 then rtI b5 else 0 := ⟨_, rfl⟩
  have f5 : m5 = true → frOk a5 b5 = true := fun h => (v5 (r5 h) h).1
  have he0 : 0 ≤ e ∧ e ≤ 40000 := by
    cases hm5 : m5
    · rw [he, hm5]; exact ⟨Int.le_refl _, by simp⟩
    · rw [he, hm5, if_pos rfl]
      have := (frOk_of (f5 hm5)).1
      exact rtI_bd (by omega)
  have hS := c_sPotMain n p q r s t u a1 b1 a2 b2 a3 b3 a4 b4 a5 b5 a6 b6 e m1 m2 m3 m4 m5 m6 hv hn he0 (h1 rfl) (h2 rfl) h3 h4 h5 (fun x y => h6 (by rw [x, y]; rfl))
    (fun h => Lib.hid (fun w => by
      have := (frOk_of (f5 h)).1
      rw [he, h, if_pos rfl]
      exact (c_frRoot b5 (by omega) w).mono fun x w' ⟨hx, hw⟩ => ⟨hx, by rw [hw]; exact Below.refl _ _⟩))
  -- the program's steps
  obtain ⟨t1, t2, o1, k1, g1, e1, q1⟩ := ks_plus p q t u true fA fC
  obtain ⟨w1, w2, kw, gw, ew⟩ := ks_whole n o1 (by omega)
  obtain ⟨c1, c2, o3, k3, g3, e3, q3⟩ := ks_times w1 w2 t1 t2 o1 gw g1
  obtain ⟨A5, B5, o5, k5, g5, e5, q5⟩ := ks_over c1 c2 r s o3 g3 fB
  obtain ⟨d1, d2, kd, gd, ed⟩ := ks_whole (2 * n * n) o5 (by omega)
  obtain ⟨l1, l2, o4, k4, g4, e4, q4⟩ := ks_times d1 d2 t1 t2 o5 gd g1
  obtain ⟨z1, z2, o2, k2, g2, e2, q2⟩ := ks_times r s r s o4 fB fB
  obtain ⟨A6, B6, o6, k6, g6, e6, q6⟩ := ks_over l1 l2 z1 z2 o2 g4 g2
  have hB5 := (frOk_of g5).1
  have hr := rtI_bd (n := B5) (by omega)
  have hI := c_iPotMain n p q r s t u t1 t2 w1 w2 c1 c2 A5 B5 d1 d2 l1 l2 z1 z2 A6 B6 (if sqB B5 then rtI B5 else 0) o1 o1 o3 o5 o5 o4 o2 o6 (sqB B5) hv
    (by cases sqB B5; exact ⟨Int.le_refl _, by simp⟩; exact hr) (Lib.hid k1) (Lib.hid kw) (Lib.hid k3) (Lib.hid k5) (Lib.hid kd) (Lib.hid k4) (Lib.hid k2) (Lib.hid k6) (Lib.hid fun w => c_exactRoot B5 (by omega) w)
  clear k1 kw k3 k5 kd k4 k2 k6
  have key : (o6 && sqB B5 && decide ((if sqB B5 then rtI B5 else 0) ≤ 20) && (B6 == (if sqB B5 then rtI B5 else 0) * (if sqB B5 then rtI B5 else 0) * (if sqB B5 then rtI B5 else 0)) && ptF (-n * n) 0 A5 A6 (if sqB B5 then rtI B5 else 0)) = (m1 && m2 && m3 && m4 && m5 && m6 && ((e * e == b5) && inB e 1 20 && (e * e * e == b6) && ptF (congA n) 0 a5 a6 e)) ∧ ((o6 && sqB B5 && decide ((if sqB B5 then rtI B5 else 0) ≤ 20) && (B6 == (if sqB B5 then rtI B5 else 0) * (if sqB B5 then rtI B5 else 0) * (if sqB B5 then rtI B5 else 0)) && ptF (-n * n) 0 A5 A6 (if sqB B5 then rtI B5 else 0)) = true → A5 = a5 ∧ A6 = a6 ∧ (if sqB B5 then rtI B5 else 0) = e) := by
    clear hS hI h1 h2 h3 h4 h5 h6
    have hG := pot_guard (n := n) (a5 := A5) (b5 := B5) (a6 := A6) (b6 := B6) hB5.1
    have hsq : (o6 && sqB B5 && decide ((if sqB B5 then rtI B5 else 0) ≤ 20) && (B6 == (if sqB B5 then rtI B5 else 0) * (if sqB B5 then rtI B5 else 0) * (if sqB B5 then rtI B5 else 0)) && ptF (-n * n) 0 A5 A6 (if sqB B5 then rtI B5 else 0)) = true → (if sqB B5 then rtI B5 else 0) = rtI B5 := by
      intro h
      have := and_r (and_l (and_l (and_l h)))
      rw [this]; rfl
    have hA : (o6 && sqB B5 && decide ((if sqB B5 then rtI B5 else 0) ≤ 20) && (B6 == (if sqB B5 then rtI B5 else 0) * (if sqB B5 then rtI B5 else 0) * (if sqB B5 then rtI B5 else 0)) && ptF (-n * n) 0 A5 A6 (if sqB B5 then rtI B5 else 0)) = (o6 && ((rtI B5 * rtI B5 == B5) && inB (rtI B5) 1 20 && (rtI B5 * rtI B5 * rtI B5 == B6) && ptF (congA n) 0 A5 A6 (rtI B5))) := by
      rw [← hG]; simp only [Bool.and_assoc]
    have hX : ∀ x, (if sqB B5 then rtI B5 else 0) = x → True := fun _ _ => trivial
    rw [hA] at hsq ⊢
    generalize (if sqB B5 then rtI B5 else 0) = E at *
    clear hG hA hX
    have y1 := s1 rfl
    rw [Bool.true_and] at e1
    rw [← y1] at e1
    replace e1 := e1.symm
    subst e1
    cases m1
    · skip
      have ho : o6 = false := by rw [e6, e2, e4, e5, e3]; simp
      rw [ho]; exact ⟨by simp, fun h => by simp at h⟩
    obtain rfl : t1 = a1 := (q1 rfl).1.trans (v1 rfl rfl).2.1.symm
    obtain rfl : t2 = b1 := (q1 rfl).2.trans (v1 rfl rfl).2.2.symm
    obtain ⟨rfl, rfl⟩ := ew rfl
    have y3 := s3 rfl
    rw [Bool.true_and] at e3
    rw [← y3] at e3
    replace e3 := e3.symm
    subst e3
    cases m3
    · skip
      have ho : o6 = false := by rw [e6, e2, e4, e5]; simp
      rw [ho]; exact ⟨by simp, fun h => by simp at h⟩
    obtain rfl : c1 = a3 := (q3 rfl).1.trans (v3 rfl rfl).2.1.symm
    obtain rfl : c2 = b3 := (q3 rfl).2.trans (v3 rfl rfl).2.2.symm
    have y5 := s5 rfl
    rw [Bool.true_and] at e5
    rw [← y5] at e5
    replace e5 := e5.symm
    subst e5
    cases m5
    · skip
      have ho : o6 = false := by rw [e6, e2, e4]; simp
      rw [ho]; exact ⟨by simp, fun h => by simp at h⟩
    obtain rfl : A5 = a5 := (q5 rfl).1.trans (v5 rfl rfl).2.1.symm
    obtain rfl : B5 = b5 := (q5 rfl).2.trans (v5 rfl rfl).2.2.symm
    obtain ⟨rfl, rfl⟩ := ed rfl
    have y4 := s4 rfl
    rw [Bool.true_and] at e4
    rw [← y4] at e4
    replace e4 := e4.symm
    subst e4
    cases m4
    · skip
      have ho : o6 = false := by rw [e6, e2]; simp
      rw [ho]; exact ⟨by simp, fun h => by simp at h⟩
    obtain rfl : l1 = a4 := (q4 rfl).1.trans (v4 rfl rfl).2.1.symm
    obtain rfl : l2 = b4 := (q4 rfl).2.trans (v4 rfl rfl).2.2.symm
    have y2 := s2 rfl
    rw [Bool.true_and] at e2
    rw [← y2] at e2
    replace e2 := e2.symm
    subst e2
    cases m2
    · skip
      have ho : o6 = false := by rw [e6]; simp
      rw [ho]; exact ⟨by simp, fun h => by simp at h⟩
    obtain rfl : z1 = a2 := (q2 rfl).1.trans (v2 rfl rfl).2.1.symm
    obtain rfl : z2 = b2 := (q2 rfl).2.trans (v2 rfl rfl).2.2.symm
    have y6 := s6 rfl
    rw [Bool.true_and] at e6
    rw [← y6] at e6
    replace e6 := e6.symm
    subst e6
    cases m6
    · skip
      exact ⟨by simp, fun h => by simp at h⟩
    obtain rfl : A6 = a6 := (q6 rfl).1.trans (v6 rfl rfl).2.1.symm
    obtain rfl : B6 = b6 := (q6 rfl).2.trans (v6 rfl rfl).2.2.symm
    obtain rfl : e = rtI B5 := he
    refine ⟨by simp only [Bool.true_and], fun h => ⟨rfl, rfl, hsq h⟩⟩
  exact ⟨_, _, _, _, hS, fun w => (hI w).mono fun x w1 hk => potP_congr key.1 key.2 hk⟩
theorem pot_all (n p q r s t u : Int) : ∃ (a b c : Int) (o : Bool),
    (∀ w : World, Calls Try.prog 4 #[.int .i64 n, .agg #[.int .i64 p, .int .i64 q, .int .i64 r, .int .i64 s, .int .i64 t, .int .i64 u]] w fun x w' => x = .returned (.tuple #[.agg #[.int .i64 a, .int .i64 b, .int .i64 c], .bool o]) ∧ Below w.heap.size w w') ∧
    (∀ w : World, Calls Try.prog 6 #[.int .i64 n, .agg #[.int .i64 p, .int .i64 q, .int .i64 r, .int .i64 s, .int .i64 t, .int .i64 u]] w fun x w' => x = .returned (.tuple #[.agg #[.int .i64 a, .int .i64 b, .int .i64 c], .bool o]) ∧ Below w.heap.size w w') := by
  cases h : vlB n p q r s t u
  · exact ⟨0, 0, 0, false, c_sPotNo n p q r s t u 0 0 0 h, c_iPotNo n p q r s t u 0 0 0 h⟩
  · obtain ⟨a, b, c, o, h1, h2⟩ := pot_both n p q r s t u h
    cases o
    · exact ⟨0, 0, 0, false, h1, h2⟩
    · exact ⟨a, b, c, true, h1, h2⟩
end Go.Proofs.Ytahjlgbhgaeioaa
