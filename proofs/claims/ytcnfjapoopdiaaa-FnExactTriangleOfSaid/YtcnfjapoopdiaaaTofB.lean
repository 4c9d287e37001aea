/- Plain: both sides of TriangleOf answer alike. -/
import Derived.Test.YtcnfjapoopdiaaaTofI
import Derived.Test.YtcnfjapoopdiaaaTofS
import Derived.Test.YtcnfjapoopdiaaaStp
import Derived.Test.YtcnfjapoopdiaaaFv
namespace Go.Proofs.Ytcnfjapoopdiaaa
open Go.RowKit

theorem tofP_congr {w w1 : World} {a b c d e f a' b' c' d' e' f' : Int} {o o' : Bool} {x : Ending} (ho : o = o') (h : o = true → a = a' ∧ b = b' ∧ c = c' ∧ d = d' ∧ e = e' ∧ f = f') (k : tofP w a b c d e f o x w1) : tofP w a' b' c' d' e' f' o' x w1 := by
  subst ho
  cases o
  · exact k
  · obtain ⟨rfl, rfl, rfl, rfl, rfl, rfl⟩ := h rfl
    exact k
/-- the triangle's sides, without their order and with their signs, by their values -/
def TofV (n X Y E a b c d e f : Int) : Prop := (frOk a b = true ∧ frOk c d = true ∧ frOk e f = true) ∧ ((Y : Rat) / ((E * E * E : Int) : Rat) ≠ 0 ∧ ((E : Rat) ≠ 0)) ∧
  fv a b = ((X : Rat) / ((E * E : Int) : Rat) - (n : Rat)) * (((X : Rat) / ((E * E : Int) : Rat) + (n : Rat)) / ((Y : Rat) / ((E * E * E : Int) : Rat))) ∧
  fv c d = 2 * (n : Rat) * (((X : Rat) / ((E * E : Int) : Rat)) / ((Y : Rat) / ((E * E * E : Int) : Rat))) ∧
  fv e f = (((X : Rat) / ((E * E : Int) : Rat)) * ((X : Rat) / ((E * E : Int) : Rat)) + (n : Rat) * (n : Rat)) / ((Y : Rat) / ((E * E * E : Int) : Rat))
theorem fv_one (n : Int) : fv n 1 = (n : Rat) := by unfold fv; rw [show ((1 : Int) : Rat) = 1 by rfl]; grind
theorem tof_both (n X Y E : Int) (hg : gtB n X Y E = true) : ∃ (a b c d e f : Int) (o : Bool),
    (∀ w : World, Calls Try.prog 5 #[.int .i64 n, .agg #[.int .i64 X, .int .i64 Y, .int .i64 E]] w (tofP w a b c d e f o)) ∧
    (∀ w : World, Calls Try.prog 7 #[.int .i64 n, .agg #[.int .i64 X, .int .i64 Y, .int .i64 E]] w (tofP w a b c d e f o)) ∧ (o = true → TofV n X Y E a b c d e f) := by
  unfold gtB at hg
  simp only [Bool.and_eq_true, Bool.not_eq_true'] at hg
  obtain ⟨⟨hn, hP⟩, hY⟩ := hg
  have hn' := areaB_b2 hn
  have hnn : 1 ≤ n * n ∧ n * n ≤ 961 := ⟨by have := Int.mul_le_mul hn'.1 hn'.1 (by omega) (by omega); omega, by have := Int.mul_le_mul hn'.2 hn'.2 (by omega) (by omega); omega⟩
  have hY0 : Y ≠ 0 := by simpa using hY
  have hf : finB (-n * n) 0 X Y E = true := by
    unfold ptF at hP
    rw [hY, Bool.and_false, Bool.false_and, Bool.false_or] at hP
    exact hP
  unfold finB at hf
  simp only [Bool.and_eq_true] at hf
  have hX := inB_true hf.1.1.1.1
  have hE := inB_true hf.1.1.1.2
  have hYb := inB_true hf.1.2
  clear hf
  have hEE : 1 ≤ E * E ∧ E * E ≤ 400 := ⟨by have := Int.mul_le_mul hE.1 hE.1 (by omega) (by omega); omega, by have := Int.mul_le_mul hE.2 hE.2 (by omega) (by omega); omega⟩
  have hE3 : 1 ≤ E * E * E ∧ E * E * E ≤ 8000 := ⟨by have := Int.mul_le_mul hEE.1 hE.1 (by omega) (by omega); omega, by have := Int.mul_le_mul hEE.2 hE.2 (by omega) (by omega); omega⟩
  have hfn : frOk n 1 = true := by have := mk_one (n := n) (by omega); have h := mOk_fr this.1; rw [this.2.1, this.2.2] at h; exact h
  have hf2 : frOk (2 * n) 1 = true := by have := mk_one (n := 2 * n) (by omega); have h := mOk_fr this.1; rw [this.2.1, this.2.2] at h; exact h
  have hf3 : frOk (n * n) 1 = true := by have := mk_one (n := n * n) (by omega); have h := mOk_fr this.1; rw [this.2.1, this.2.2] at h; exact h
  have hs1 := c_frMake X (E * E) (by omega) (by omega)
  have hs2 := c_frMake Y (E * E * E) (by omega) (by omega)
  have hi1 := c_makeFraction X (E * E) (by omega) (by omega) (by omega)
  have hi2 := c_makeFraction Y (E * E * E) (by omega) (by omega) (by omega)
  have hk1 := ks_keep (rsI (mOk X (E * E)) (mkN X (E * E))) (rsI (mOk X (E * E)) (mkD X (E * E))) true (mOk X (E * E))
  have hk2 := ks_keep (rsI (mOk Y (E * E * E)) (mkN Y (E * E * E))) (rsI (mOk Y (E * E * E)) (mkD Y (E * E * E))) (true && mOk X (E * E)) (mOk Y (E * E * E))
  have f1 : mOk X (E * E) = true → frOk (mkN X (E * E)) (mkD X (E * E)) = true := mOk_fr
  have f2 : mOk Y (E * E * E) = true → frOk (mkN Y (E * E * E)) (mkD Y (E * E * E)) = true := mOk_fr
  have fq1 : mOk X (E * E) = true → fv (mkN X (E * E)) (mkD X (E * E)) = (X : Rat) / ((E * E : Int) : Rat) := fun _ => fv_mk (by omega)
  have fq2 : mOk Y (E * E * E) = true → fv (mkN Y (E * E * E)) (mkD Y (E * E * E)) = (Y : Rat) / ((E * E * E : Int) : Rat) := fun _ => fv_mk (by omega)
  generalize mkN X (E * E) = N1 at *
  generalize mkD X (E * E) = D1 at *
  generalize mOk X (E * E) = q1 at *
  generalize mkN Y (E * E * E) = N2 at *
  generalize mkD Y (E * E * E) = D2 at *
  generalize mOk Y (E * E * E) = q2 at *
  -- the reference's steps
  obtain ⟨x1, hx1⟩ : ∃ x, x = rsI q1 N1 := ⟨_, rfl⟩
  obtain ⟨x2, hx2⟩ : ∃ x, x = rsI q1 D1 := ⟨_, rfl⟩
  obtain ⟨y1, hy1⟩ : ∃ x, x = rsI q2 N2 := ⟨_, rfl⟩
  obtain ⟨y2, hy2⟩ : ∃ x, x = rsI q2 D2 := ⟨_, rfl⟩
  have fx : q1 = true → frOk x1 x2 = true := by intro h; rw [hx1, hx2, h]; exact f1 h
  have fy : q2 = true → frOk y1 y2 = true := by intro h; rw [hy1, hy2, h]; exact f2 h
  rw [← hx1, ← hx2] at hs1 hi1 hk1
  rw [← hy1, ← hy2] at hs2 hi2 hk2
  have fvx : q1 = true → fv x1 x2 = (X : Rat) / ((E * E : Int) : Rat) := by intro h; rw [hx1, hx2, h]; exact fq1 h
  have fvy : q2 = true → fv y1 y2 = (Y : Rat) / ((E * E * E : Int) : Rat) := by intro h; rw [hy1, hy2, h]; exact fq2 h
  clear f1 f2 hx1 hx2 hy1 hy2 fq1 fq2
  obtain ⟨a1, b1, m1, h1, s1, v1, r1⟩ := ts_frSub x1 x2 n 1 q1 (fx) (fun _ => hfn)
  obtain ⟨a2, b2, m2, h2, s2, v2, r2⟩ := ts_frAdd x1 x2 n 1 q1 (fx) (fun _ => hfn)
  obtain ⟨a3, b3, m3, h3, s3, v3, r3⟩ := ts_frMul x1 x2 x1 x2 q1 (fx) (fx)
  obtain ⟨a4, b4, m4, h4, s4, v4, r4⟩ := ts_frDiv x1 x2 y1 y2 (q1 && q2) (fun h => fx (and_l h)) (fun h => fy (and_r h))
  obtain ⟨a5, b5, m5, h5, s5, v5, r5⟩ := ts_frDiv a2 b2 y1 y2 (q1 && m2 && q2) (fun h => (v2 (and_l (and_l h)) (and_r (and_l h))).1) (fun h => fy (and_r h))
  obtain ⟨a6, b6, m6, h6, s6, v6, r6⟩ := ts_frAdd a3 b3 (n * n) 1 (q1 && m3) (fun h => (v3 (and_l h) (and_r h)).1) (fun _ => hf3)
  obtain ⟨a7, b7, m7, h7, s7, v7, r7⟩ := ts_frMul (2 * n) 1 a4 b4 (q1 && q2 && m4) (fun _ => hf2) (fun h => (v4 (and_l h) (and_r h)).1)
  obtain ⟨a8, b8, m8, h8, s8, v8, r8⟩ := ts_frMul a1 b1 a5 b5 (q1 && m1 && (q1 && m2 && q2) && m5) (fun h => (v1 (and_l (and_l (and_l h))) (and_r (and_l (and_l h)))).1) (fun h => (v5 (and_r (and_l h)) (and_r h)).1)
  obtain ⟨a9, b9, m9, h9, s9, v9, r9⟩ := ts_frDiv a6 b6 y1 y2 (q1 && m3 && m6 && q2) (fun h => (v6 (and_l (and_l h)) (and_r (and_l h))).1) (fun h => fy (and_r h))
  -- the program's steps
  obtain ⟨z1, hz1⟩ : ∃ x, x = (if true && q1 then x1 else 0) := ⟨_, rfl⟩
  obtain ⟨z2, hz2⟩ : ∃ x, x = (if true && q1 then x2 else 1) := ⟨_, rfl⟩
  obtain ⟨u1, hu1⟩ : ∃ x, x = (if (true && q1) && q2 then y1 else 0) := ⟨_, rfl⟩
  obtain ⟨u2, hu2⟩ : ∃ x, x = (if (true && q1) && q2 then y2 else 1) := ⟨_, rfl⟩
  have gz : frOk z1 z2 = true := by rw [hz1, hz2]; cases q1; exact (by decide : frOk 0 1 = true); exact fx rfl
  have gu : frOk u1 u2 = true := by rw [hu1, hu2]; cases q1; exact (by decide : frOk 0 1 = true); cases q2; exact (by decide : frOk 0 1 = true); exact fy rfl
  rw [← hz1, ← hz2] at hk1
  rw [← hu1, ← hu2] at hk2
  rw [Bool.true_and] at hk1 hk2 hz1 hz2 hu1 hu2
  obtain ⟨w1, w2, kw, gw, ew⟩ := ks_whole n (q1 && q2) (by omega)
  obtain ⟨A1, B1, o1, k1, g1, e1, t1⟩ := ks_minus z1 z2 w1 w2 (q1 && q2) gz gw
  obtain ⟨A2, B2, o2, k2, g2, e2, t2⟩ := ks_plus z1 z2 w1 w2 o1 gz gw
  obtain ⟨A5, B5, o5, k5, g5, e5, t5⟩ := ks_over A2 B2 u1 u2 o2 g2 gu
  obtain ⟨A8, B8, o8, k8, g8, e8, t8⟩ := ks_times A1 B1 A5 B5 o5 g1 g5
  obtain ⟨c1, c2, kc, gc, ec⟩ := ks_whole (2 * n) o8 (by omega)
  obtain ⟨A4, B4, o4, k4, g4, e4, t4⟩ := ks_over z1 z2 u1 u2 o8 gz gu
  obtain ⟨A7, B7, o7, k7, g7, e7, t7⟩ := ks_times c1 c2 A4 B4 o4 gc g4
  obtain ⟨A3, B3, o3, k3, g3, e3, t3⟩ := ks_times z1 z2 z1 z2 o7 gz gz
  obtain ⟨d1, d2, o10, kd, gd, ed, td⟩ := ks_times w1 w2 w1 w2 o3 gw gw
  obtain ⟨A6, B6, o6, k6, g6, e6, t6⟩ := ks_plus A3 B3 d1 d2 o10 g3 gd
  obtain ⟨A9, B9, o9, k9, g9, e9, t9⟩ := ks_over A6 B6 u1 u2 o6 g6 gu
  have hI := c_iTofMain n X Y E x1 x2 z1 z2 y1 y2 u1 u2 w1 w2 A1 B1 A2 B2 A3 B3 A4 B4 A5 B5 A6 B6 A7 B7 A8 B8 A9 B9 c1 c2 d1 d2 q1 q2 q1 (q1 && q2) (q1 && q2) o1 o2 o5 o8 o8 o4 o7 o3 o10 o6 o9 hn hP hY hE
    (Lib.hid hi1) (Lib.hid hk1) (Lib.hid hi2) (Lib.hid hk2) (Lib.hid kw) (Lib.hid k1) (Lib.hid k2) (Lib.hid k5) (Lib.hid k8) (Lib.hid kc) (Lib.hid k4) (Lib.hid k7) (Lib.hid k3) (Lib.hid kd) (Lib.hid k6) (Lib.hid k9)
    (Lib.hid (fun _ w => c_sortedTriangle A8 B8 A7 B7 A9 B9 g8 g7 g9 w))
  clear k1 k2 k3 k4 k5 k6 k7 k8 k9 kc kd kw hk1 hk2 hi1 hi2
  have hS := c_sTofMain n X Y E x1 x2 y1 y2 a8 b8 a7 b7 a9 b9 q1 q2 (m1 && m2 && m3 && m4 && (m5 && m6 && m7) && (m8 && m9)) hn hP hY hE (Lib.hid hs1) (Lib.hid hs2)
    (Lib.hid (by
      rintro rfl rfl w
      exact c_cnTriangle_of n x1 x2 y1 y2 a1 b1 a2 b2 a3 b3 a4 b4 a5 b5 a6 b6 a7 b7 a8 b8 a9 b9 m1 m2 m3 m4 m5 m6 m7 m8 m9 hn' (h1 rfl) (h2 rfl) (h3 rfl) (h4 rfl) (fun h => h5 (by rw [h]; rfl)) (fun h => h6 (by rw [h]; rfl)) (fun h => h7 (by rw [h]; rfl))
        (fun p1 p5 => h8 (by rw [p1, r5 p5, p5]; rfl))
        (fun p6 => h9 (by rw [r6 p6, p6]; rfl))
        (fun p8 p7 p9 w => c_cnOrder a8 b8 a7 b7 a9 b9 (v8 (r8 p8) p8).1 (v7 (r7 p7) p7).1 (v9 (r9 p9) p9).1 w) w))
  have mo := mk_one (n := n * n) (by omega)
  have key : o9 = (q1 && q2 && (m1 && m2 && m3 && m4 && (m5 && m6 && m7) && (m8 && m9))) ∧ (o9 = true → A8 = a8 ∧ B8 = b8 ∧ A7 = a7 ∧ B7 = b7 ∧ A9 = a9 ∧ B9 = b9) := by
    clear hS hI h1 h2 h3 h4 h5 h6 h7 h8 h9 hs1 hs2 fvx fvy
    cases q1
    · skip
      have ho : o9 = false := by rw [e9, e6, ed, e3, e7, e4, e8, e5, e2, e1]; simp
      rw [ho]; exact ⟨by simp, fun h => by simp at h⟩
    cases q2
    · skip
      have ho : o9 = false := by rw [e9, e6, ed, e3, e7, e4, e8, e5, e2, e1]; simp
      rw [ho]; exact ⟨by simp, fun h => by simp at h⟩
    obtain rfl : z1 = x1 := by simpa using hz1
    obtain rfl : z2 = x2 := by simpa using hz2
    obtain rfl : u1 = y1 := by simpa using hu1
    obtain rfl : u2 = y2 := by simpa using hu2
    obtain ⟨rfl, rfl⟩ := ew rfl
    have y1 := s1 rfl
    simp only [Bool.true_and] at e1
    rw [← y1] at e1
    replace e1 := e1.symm
    subst e1
    cases m1
    · skip
      have ho : o9 = false := by rw [e9, e6, ed, e3, e7, e4, e8, e5, e2]; simp
      rw [ho]; exact ⟨by simp, fun h => by simp at h⟩
    obtain rfl : A1 = a1 := (t1 rfl).1.trans (v1 rfl rfl).2.1.symm
    obtain rfl : B1 = b1 := (t1 rfl).2.trans (v1 rfl rfl).2.2.symm
    have y2 := s2 rfl
    rw [Bool.true_and] at e2
    rw [← y2] at e2
    replace e2 := e2.symm
    subst e2
    cases m2
    · skip
      have ho : o9 = false := by rw [e9, e6, ed, e3, e7, e4, e8, e5]; simp
      rw [ho]; exact ⟨by simp, fun h => by simp at h⟩
    obtain rfl : A2 = a2 := (t2 rfl).1.trans (v2 rfl rfl).2.1.symm
    obtain rfl : B2 = b2 := (t2 rfl).2.trans (v2 rfl rfl).2.2.symm
    have y5 := s5 rfl
    rw [Bool.true_and] at e5
    rw [← y5] at e5
    replace e5 := e5.symm
    subst e5
    cases m5
    · skip
      have ho : o9 = false := by rw [e9, e6, ed, e3, e7, e4, e8]; simp
      rw [ho]; exact ⟨by simp, fun h => by simp at h⟩
    obtain rfl : A5 = a5 := (t5 rfl).1.trans (v5 rfl rfl).2.1.symm
    obtain rfl : B5 = b5 := (t5 rfl).2.trans (v5 rfl rfl).2.2.symm
    have y8 := s8 rfl
    rw [Bool.true_and] at e8
    rw [← y8] at e8
    replace e8 := e8.symm
    subst e8
    cases m8
    · skip
      have ho : o9 = false := by rw [e9, e6, ed, e3, e7, e4]; simp
      rw [ho]; exact ⟨by simp, fun h => by simp at h⟩
    obtain rfl : A8 = a8 := (t8 rfl).1.trans (v8 rfl rfl).2.1.symm
    obtain rfl : B8 = b8 := (t8 rfl).2.trans (v8 rfl rfl).2.2.symm
    obtain ⟨rfl, rfl⟩ := ec rfl
    have y4 := s4 rfl
    rw [Bool.true_and] at e4
    rw [← y4] at e4
    replace e4 := e4.symm
    subst e4
    cases m4
    · skip
      have ho : o9 = false := by rw [e9, e6, ed, e3, e7]; simp
      rw [ho]; exact ⟨by simp, fun h => by simp at h⟩
    obtain rfl : A4 = a4 := (t4 rfl).1.trans (v4 rfl rfl).2.1.symm
    obtain rfl : B4 = b4 := (t4 rfl).2.trans (v4 rfl rfl).2.2.symm
    have y7 := s7 rfl
    rw [Bool.true_and] at e7
    rw [← y7] at e7
    replace e7 := e7.symm
    subst e7
    cases m7
    · skip
      have ho : o9 = false := by rw [e9, e6, ed, e3]; simp
      rw [ho]; exact ⟨by simp, fun h => by simp at h⟩
    obtain rfl : A7 = a7 := (t7 rfl).1.trans (v7 rfl rfl).2.1.symm
    obtain rfl : B7 = b7 := (t7 rfl).2.trans (v7 rfl rfl).2.2.symm
    have y3 := s3 rfl
    rw [Bool.true_and] at e3
    rw [← y3] at e3
    replace e3 := e3.symm
    subst e3
    cases m3
    · skip
      have ho : o9 = false := by rw [e9, e6, ed]; simp
      rw [ho]; exact ⟨by simp, fun h => by simp at h⟩
    obtain rfl : A3 = a3 := (t3 rfl).1.trans (v3 rfl rfl).2.1.symm
    obtain rfl : B3 = b3 := (t3 rfl).2.trans (v3 rfl rfl).2.2.symm
    rw [show (1 : Int) * 1 = 1 from rfl] at ed td
    rw [mo.1, Bool.and_true] at ed
    subst ed
    obtain ⟨rfl, rfl⟩ := td rfl
    rw [mo.2.1, mo.2.2] at e6 t6
    have y6 := s6 rfl
    rw [Bool.true_and] at e6
    rw [← y6] at e6
    replace e6 := e6.symm
    subst e6
    cases m6
    · skip
      have ho : o9 = false := by rw [e9]; simp
      rw [ho]; exact ⟨by simp, fun h => by simp at h⟩
    obtain rfl : A6 = a6 := (t6 rfl).1.trans (v6 rfl rfl).2.1.symm
    obtain rfl : B6 = b6 := (t6 rfl).2.trans (v6 rfl rfl).2.2.symm
    have y9 := s9 rfl
    rw [Bool.true_and] at e9
    rw [← y9] at e9
    replace e9 := e9.symm
    subst e9
    cases m9
    · skip
      exact ⟨by simp, fun h => by simp at h⟩
    obtain rfl : A9 = a9 := (t9 rfl).1.trans (v9 rfl rfl).2.1.symm
    obtain rfl : B9 = b9 := (t9 rfl).2.trans (v9 rfl rfl).2.2.symm
    exact ⟨rfl, fun _ => ⟨rfl, rfl, rfl, rfl, rfl, rfl⟩⟩
  refine ⟨_, _, _, _, _, _, _, hS, fun w => (hI w).mono fun e w1 hk => tofP_congr key.1 key.2 hk, fun ho => ?_⟩
  clear hS hI key h1 h2 h3 h4 h5 h6 h7 h8 h9 hs1 hs2 r1 r2 r3 r4 r5 r6 r7 r8 r9
  simp only [Bool.and_eq_true] at ho
  obtain ⟨⟨rfl, rfl⟩, ⟨⟨⟨⟨rfl, rfl⟩, rfl⟩, rfl⟩, ⟨rfl, rfl⟩, rfl⟩, rfl, rfl⟩ := ho
  obtain ⟨_, i1, j1⟩ := v1 rfl rfl
  obtain ⟨_, i2, j2⟩ := v2 rfl rfl
  obtain ⟨_, i3, j3⟩ := v3 rfl rfl
  obtain ⟨_, i4, j4⟩ := v4 rfl rfl
  obtain ⟨_, i5, j5⟩ := v5 rfl rfl
  obtain ⟨_, i6, j6⟩ := v6 rfl rfl
  obtain ⟨k7, i7, j7⟩ := v7 rfl rfl
  obtain ⟨k8, i8, j8⟩ := v8 rfl rfl
  obtain ⟨k9, i9, j9⟩ := v9 rfl rfl
  have y2 : y2 ≠ 0 := by have := (frOk_of (fy rfl)).1; omega
  have w1 : fv a1 b1 = fv x1 x2 - fv n 1 := by rw [i1, j1]; exact fv_sub (s1 rfl).symm
  have w2 : fv a2 b2 = fv x1 x2 + fv n 1 := by rw [i2, j2]; exact fv_add (s2 rfl).symm
  have w3 : fv a3 b3 = fv x1 x2 * fv x1 x2 := by rw [i3, j3]; exact fv_mul (s3 rfl).symm
  have w4 := fv_div y2 (s4 rfl).symm
  rw [← i4, ← j4] at w4
  have w5 := fv_div y2 (s5 rfl).symm
  rw [← i5, ← j5] at w5
  have w6 : fv a6 b6 = fv a3 b3 + fv (n * n) 1 := by rw [i6, j6]; exact fv_add (s6 rfl).symm
  have w7 : fv a7 b7 = fv (2 * n) 1 * fv a4 b4 := by rw [i7, j7]; exact fv_mul (s7 rfl).symm
  have w8 : fv a8 b8 = fv a1 b1 * fv a5 b5 := by rw [i8, j8]; exact fv_mul (s8 rfl).symm
  have w9 := fv_div y2 (s9 rfl).symm
  rw [← i9, ← j9] at w9
  have hEr := cast_ne (show E ≠ 0 by omega)
  rw [fv_one, Rat.intCast_mul] at w6 w7
  rw [fv_one] at w1 w2
  have z1 := fvx rfl
  have z2 := fvy rfl
  rw [z1] at w1 w2 w3
  rw [z1, z2] at w4
  rw [z2] at w5 w9
  refine ⟨⟨k8, k7, k9⟩, ⟨w4.2, hEr⟩, ?_, ?_, ?_⟩
  · rw [w8, w1, w5.1, w2]
  · rw [w7, w4.1]; rfl
  · rw [w9.1, w6, w3]
end Go.Proofs.Ytcnfjapoopdiaaa
