/- Walks: the triangle of a point, the program's. -/
import Derived.Test.YtcnfjapoopdiaaaTof
import Derived.Test.YtcnfjapoopdiaaaCalcB
import Derived.Test.YtcnfjapoopdiaaaPt2
import Derived.Deep.Cut
namespace Go.Proofs.Ytcnfjapoopdiaaa
open Go.RowKit

theorem areaB_b2 {n : Int} (h : areaB n = true) : 1 ≤ n ∧ n ≤ 31 := by
  unfold areaB at h
  simp only [Bool.and_eq_true] at h
  exact inB_true h.1
theorem curve_n {n : Int} (h : 1 ≤ n ∧ n ≤ 31) : curveB (-n * n) 0 = true := by
  have hk : ∀ k : Fin 31, curveB (-(((k : Nat) : Int) + 1) * (((k : Nat) : Int) + 1)) 0 = true := by decide
  have := hk ⟨(n - 1).toNat, by omega⟩
  have he : (((n - 1).toNat : Nat) : Int) + 1 = n := by omega
  simpa only [he] using this
set_option maxHeartbeats 4000000 in
set_option maxRecDepth 100000 in
theorem c_iTofMain (n X Y E c1 d1 x1 x2 c2 d2 y1 y2 w1 w2 a1 b1 a2 b2 a3 b3 a4 b4 a5 b5 a6 b6 a7 b7 a8 b8 a9 b9 e1 f1 e2 f2 : Int) (q1 q2 o1 o2 o3 o4 o5 o6 o7 o8 o9 o10 o11 o12 o13 o14 : Bool) (hn : areaB n = true) (hP : ptF (-n * n) 0 X Y E = true) (hY : (Y == 0) = false) (hE : 1 ≤ E ∧ E ≤ 20)
    (H1 : Hid (∀ w : World, Calls Try.prog 35 #[.int .i64 X, .int .i64 (E * E)] w fun r w' => r = .returned (.tuple #[.agg #[.int .i64 c1, .int .i64 d1], .bool q1]) ∧ Below w.heap.size w w'))
    (K1 : Hid (Kq 34 [.agg #[.int .i64 c1, .int .i64 d1], .bool q1] true x1 x2 o1))
    (H2 : Hid (∀ w : World, Calls Try.prog 35 #[.int .i64 Y, .int .i64 (E * E * E)] w fun r w' => r = .returned (.tuple #[.agg #[.int .i64 c2, .int .i64 d2], .bool q2]) ∧ Below w.heap.size w w'))
    (K2 : Hid (Kq 34 [.agg #[.int .i64 c2, .int .i64 d2], .bool q2] o1 y1 y2 o2))
    (K3 : Hid (Kq 36 [.int .i64 n] o2 w1 w2 o3))
    (K4 : Hid (Kq 38 [.agg #[.int .i64 x1, .int .i64 x2], .agg #[.int .i64 w1, .int .i64 w2]] o3 a1 b1 o4))
    (K5 : Hid (Kq 40 [.agg #[.int .i64 x1, .int .i64 x2], .agg #[.int .i64 w1, .int .i64 w2]] o4 a2 b2 o5))
    (K6 : Hid (Kq 39 [.agg #[.int .i64 a2, .int .i64 b2], .agg #[.int .i64 y1, .int .i64 y2]] o5 a5 b5 o6))
    (K7 : Hid (Kq 37 [.agg #[.int .i64 a1, .int .i64 b1], .agg #[.int .i64 a5, .int .i64 b5]] o6 a8 b8 o7))
    (K8 : Hid (Kq 36 [.int .i64 (2 * n)] o7 e1 f1 o8))
    (K9 : Hid (Kq 39 [.agg #[.int .i64 x1, .int .i64 x2], .agg #[.int .i64 y1, .int .i64 y2]] o8 a4 b4 o9))
    (K10 : Hid (Kq 37 [.agg #[.int .i64 e1, .int .i64 f1], .agg #[.int .i64 a4, .int .i64 b4]] o9 a7 b7 o10))
    (K11 : Hid (Kq 37 [.agg #[.int .i64 x1, .int .i64 x2], .agg #[.int .i64 x1, .int .i64 x2]] o10 a3 b3 o11))
    (K12 : Hid (Kq 37 [.agg #[.int .i64 w1, .int .i64 w2], .agg #[.int .i64 w1, .int .i64 w2]] o11 e2 f2 o12))
    (K13 : Hid (Kq 40 [.agg #[.int .i64 a3, .int .i64 b3], .agg #[.int .i64 e2, .int .i64 f2]] o12 a6 b6 o13))
    (K14 : Hid (Kq 39 [.agg #[.int .i64 a6, .int .i64 b6], .agg #[.int .i64 y1, .int .i64 y2]] o13 a9 b9 o14))
    (HO : Hid (o14 = true → ∀ w : World, Calls Try.prog 41 #[.agg #[.int .i64 a8, .int .i64 b8], .agg #[.int .i64 a7, .int .i64 b7], .agg #[.int .i64 a9, .int .i64 b9]] w fun r w' => r = .returned (ordV a8 b8 a7 b7 a9 b9) ∧ Below w.heap.size w w'))
    (w : World) :
    Calls Try.prog 7 #[.int .i64 n, .agg #[.int .i64 X, .int .i64 Y, .int .i64 E]] w (tofP w a8 b8 a7 b7 a9 b9 o14) := by
  have hn' := areaB_b2 hn
  have HG : Hid (∀ w, _) := fun w => c_isArea n w
  rw [hn] at HG
  have hnn : 1 ≤ n * n ∧ n * n ≤ 961 := ⟨by have := Int.mul_le_mul hn'.1 hn'.1 (by omega) (by omega); omega, by have := Int.mul_le_mul hn'.2 hn'.2 (by omega) (by omega); omega⟩
  have hneg : -n * n = -(n * n) := Int.neg_mul n n
  have hwn : IntKind.i64.wrap (-n) = -n := IntWalk.i64_in _ (by omega)
  have hwm : IntKind.i64.wrap (-n * n) = -n * n := IntWalk.i64_in _ (by omega)
  have hw2 : IntKind.i64.wrap (2 * n) = 2 * n := IntWalk.i64_in _ (by omega)
  have hEE : 1 ≤ E * E ∧ E * E ≤ 400 := ⟨by have := Int.mul_le_mul hE.1 hE.1 (by omega) (by omega); omega, by have := Int.mul_le_mul hE.2 hE.2 (by omega) (by omega); omega⟩
  have hE3 : 1 ≤ E * E * E ∧ E * E * E ≤ 8000 := ⟨by have := Int.mul_le_mul hEE.1 hE.1 (by omega) (by omega); omega, by have := Int.mul_le_mul hEE.2 hE.2 (by omega) (by omega); omega⟩
  have hwE : IntKind.i64.wrap (E * E) = E * E := IntWalk.i64_in _ (by omega)
  have hwF : IntKind.i64.wrap (E * E * E) = E * E * E := IntWalk.i64_in _ (by omega)
  have HI : Hid (∀ w, _) := fun w => c_isPoint (-n * n) 0 X Y E (curve_n hn') w
  rw [hP] at HI
  clear hn hP hnn hneg hEE hE3
  have kP := (Blk.new w #[.int .i64 X, .int .i64 Y, .int .i64 E] 30).alloc (.cells #[.int .i64 0, .int .i64 0, .int .i64 0, .int .i64 0, .int .i64 0, .int .i64 0] 27)
  have kT := Blk.new (w.alloc (.cells #[.int .i64 X, .int .i64 Y, .int .i64 E] 30)) #[.int .i64 0, .int .i64 0, .int .i64 0, .int .i64 0, .int .i64 0, .int .i64 0] 27
  simp only [World.size_alloc] at kT
  have hB : Below w.heap.size w ((w.alloc (.cells #[.int .i64 X, .int .i64 Y, .int .i64 E] 30)).alloc (.cells #[.int .i64 0, .int .i64 0, .int .i64 0, .int .i64 0, .int .i64 0, .int .i64 0] 27)) := by (repeat' (first | (with_reducible exact Below.refl _ _) | (with_reducible refine below_step (by assumption) ?_ ?_) | (with_reducible refine Below.alloc ?_ ?_ _) | (with_reducible refine Below.setCell ?_ ?_ _) | (with_reducible refine below_drewN ?_ _) | (with_reducible refine Below.drew ?_) | omega | (simp; omega) | (simp; done)))
  have hs := hB.size
  have hz : w.heap.size + 2 ≤ (((w.alloc (.cells #[.int .i64 X, .int .i64 Y, .int .i64 E] 30)).alloc (.cells #[.int .i64 0, .int .i64 0, .int .i64 0, .int .i64 0, .int .i64 0, .int .i64 0] 27))).heap.size := by simp
  go_enter Try.func7, Try.ntmps7
  go_wp2_with fail
  generalize ((w.alloc (.cells #[.int .i64 X, .int .i64 Y, .int .i64 E] 30)).alloc (.cells #[.int .i64 0, .int .i64 0, .int .i64 0, .int .i64 0, .int .i64 0, .int .i64 0] 27)) = W at *
  refine (HG.out _).mono ?_
  rintro e u1 ⟨rfl, hb1⟩
  have hz1 := hb1.size
  replace kP := kP.next hb1
  replace kT := kT.next hb1
  replace hB := below_step hb1 hs hB
  replace hs := hB.size
  have kP0 : (u1).cell? ⟨w.heap.size, 0, none⟩ = some (.int .i64 X) := kP.cell 0; have kP1 : (u1).cell? ⟨w.heap.size, 1, none⟩ = some (.int .i64 Y) := kP.cell 1; have kP2 : (u1).cell? ⟨w.heap.size, 2, none⟩ = some (.int .i64 E) := kP.cell 2; have kPl : w.heap.size < (u1).heap.size := kP.lt
  go_wp2_with fail
  refine (HI.out _).mono ?_
  rintro e u2 ⟨rfl, hb2⟩
  clear kP0 kP1 kP2 kPl
  have hz2 := hb2.size
  replace kP := kP.next hb2
  replace kT := kT.next hb2
  replace hB := below_step hb2 hs hB
  replace hs := hB.size
  have kP0 : (u2).cell? ⟨w.heap.size, 0, none⟩ = some (.int .i64 X) := kP.cell 0; have kP1 : (u2).cell? ⟨w.heap.size, 1, none⟩ = some (.int .i64 Y) := kP.cell 1; have kP2 : (u2).cell? ⟨w.heap.size, 2, none⟩ = some (.int .i64 E) := kP.cell 2; have kPl : w.heap.size < (u2).heap.size := kP.lt
  go_upto_region 4 with (fail)
  clear kP0 kP1 kP2 kPl
  have kc : CB u2.heap.size true (u2.alloc (.cells #[.bool true] 63)) := ⟨by simp [go_sem], by simp [go_sem], by simp⟩
  replace kP := kP.alloc (.cells #[.bool true] 63)
  replace kT := kT.alloc (.cells #[.bool true] 63)
  replace hB := hB.alloc hs (.cells #[.bool true] 63)
  replace hs := hB.size
  generalize u2.alloc _ = W3 at *
  have hcB : w.heap.size + 2 ≤ u2.heap.size := by omega
  clear hz hz1 hz2 hb1 hb2
  generalize u2.heap.size = c at *
  have ncP : w.heap.size ≠ c := by omega
  have ncT : w.heap.size + 1 ≠ c := by omega
  replace hcB : w.heap.size ≤ c := by omega
  clear HG HI
  have kP0 : (W3).cell? ⟨w.heap.size, 0, none⟩ = some (.int .i64 X) := kP.cell 0; have kP1 : (W3).cell? ⟨w.heap.size, 1, none⟩ = some (.int .i64 Y) := kP.cell 1; have kP2 : (W3).cell? ⟨w.heap.size, 2, none⟩ = some (.int .i64 E) := kP.cell 2; have kPl : w.heap.size < (W3).heap.size := kP.lt
  have kcl := kc.2.2
  go_wp2_with fail
  refine (H1.out _).mono ?_
  rintro e u3 ⟨rfl, hb⟩
  clear kP0 kP1 kP2 kPl kcl
  replace kc := CB.closed _ _ _ _ kc hb
  replace kP := kP.next hb
  replace kT := kT.next hb
  replace hB := below_step hb hs hB
  replace hs := hB.size
  clear hb
  go_wp2_with fail
  refine (K1.out c _ kc).mono ?_
  rintro e v3 ⟨rfl, ho, hk⟩
  clear kc
  have kc := hk
  clear hk
  replace kP := kP.over ho (by simpa using ncP)
  replace kT := kT.over ho (by simpa using ncT)
  replace hB := hB.trans (ho.below1 hcB hs)
  replace hs := hB.size
  clear ho
  have hcl := kc.2.2
  replace kP := kP.alloc (.cells #[.int .i64 x1, .int .i64 x2] 25)
  replace kT := kT.alloc (.cells #[.int .i64 x1, .int .i64 x2] 25)
  have k7 := Blk.new v3 #[.int .i64 x1, .int .i64 x2] 25
  have nk7 : v3.heap.size ≠ c := by omega
  replace kc := CB.closed _ _ _ _ kc ((Below.refl _ _).alloc (Nat.le_refl _) (.cells #[.int .i64 x1, .int .i64 x2] 25))
  replace hB := hB.alloc hs (.cells #[.int .i64 x1, .int .i64 x2] 25)
  replace hs := hB.size
  clear hcl
  go_upto_region 5 with (fail)
  generalize v3.alloc _ = W4 at *
  generalize v3.heap.size = r7 at *
  have kP0 : (W4).cell? ⟨w.heap.size, 0, none⟩ = some (.int .i64 X) := kP.cell 0; have kP1 : (W4).cell? ⟨w.heap.size, 1, none⟩ = some (.int .i64 Y) := kP.cell 1; have kP2 : (W4).cell? ⟨w.heap.size, 2, none⟩ = some (.int .i64 E) := kP.cell 2; have kPl : w.heap.size < (W4).heap.size := kP.lt
  have kcl := kc.2.2
  go_wp2_with fail
  refine (H2.out _).mono ?_
  rintro e u4 ⟨rfl, hb⟩
  clear kP0 kP1 kP2 kPl kcl
  replace kc := CB.closed _ _ _ _ kc hb
  replace kP := kP.next hb
  replace kT := kT.next hb
  replace k7 := k7.next hb
  replace hB := below_step hb hs hB
  replace hs := hB.size
  clear hb
  go_wp2_with fail
  refine (K2.out c _ kc).mono ?_
  rintro e v4 ⟨rfl, ho, hk⟩
  clear kc
  have kc := hk
  clear hk
  replace kP := kP.over ho (by simpa using ncP)
  replace kT := kT.over ho (by simpa using ncT)
  replace k7 := k7.over ho (by simpa using nk7)
  replace hB := hB.trans (ho.below1 hcB hs)
  replace hs := hB.size
  clear ho
  have hcl := kc.2.2
  replace kP := kP.alloc (.cells #[.int .i64 y1, .int .i64 y2] 25)
  replace kT := kT.alloc (.cells #[.int .i64 y1, .int .i64 y2] 25)
  replace k7 := k7.alloc (.cells #[.int .i64 y1, .int .i64 y2] 25)
  have k8 := Blk.new v4 #[.int .i64 y1, .int .i64 y2] 25
  have nk8 : v4.heap.size ≠ c := by omega
  replace kc := CB.closed _ _ _ _ kc ((Below.refl _ _).alloc (Nat.le_refl _) (.cells #[.int .i64 y1, .int .i64 y2] 25))
  replace hB := hB.alloc hs (.cells #[.int .i64 y1, .int .i64 y2] 25)
  replace hs := hB.size
  clear hcl
  go_upto_region 6 with (fail)
  generalize v4.alloc _ = W5 at *
  generalize v4.heap.size = r8 at *
  go_wp2_with fail
  refine (K3.out c _ kc).mono ?_
  rintro e v5 ⟨rfl, ho, hk⟩
  clear kc
  have kc := hk
  clear hk
  replace kP := kP.over ho (by simpa using ncP)
  replace kT := kT.over ho (by simpa using ncT)
  replace k7 := k7.over ho (by simpa using nk7)
  replace k8 := k8.over ho (by simpa using nk8)
  replace hB := hB.trans (ho.below1 hcB hs)
  replace hs := hB.size
  clear ho
  have hcl := kc.2.2
  replace kP := kP.alloc (.cells #[.int .i64 w1, .int .i64 w2] 25)
  replace kT := kT.alloc (.cells #[.int .i64 w1, .int .i64 w2] 25)
  replace k7 := k7.alloc (.cells #[.int .i64 w1, .int .i64 w2] 25)
  replace k8 := k8.alloc (.cells #[.int .i64 w1, .int .i64 w2] 25)
  have k9 := Blk.new v5 #[.int .i64 w1, .int .i64 w2] 25
  have nk9 : v5.heap.size ≠ c := by omega
  replace kc := CB.closed _ _ _ _ kc ((Below.refl _ _).alloc (Nat.le_refl _) (.cells #[.int .i64 w1, .int .i64 w2] 25))
  replace hB := hB.alloc hs (.cells #[.int .i64 w1, .int .i64 w2] 25)
  replace hs := hB.size
  clear hcl
  go_upto_region 7 with (fail)
  generalize v5.alloc _ = W6 at *
  generalize v5.heap.size = r9 at *
  have k70 : (W6).cell? ⟨r7, 0, none⟩ = some (.int .i64 x1) := k7.cell 0; have k71 : (W6).cell? ⟨r7, 1, none⟩ = some (.int .i64 x2) := k7.cell 1; have k7l : r7 < (W6).heap.size := k7.lt
  have k80 : (W6).cell? ⟨r8, 0, none⟩ = some (.int .i64 y1) := k8.cell 0; have k81 : (W6).cell? ⟨r8, 1, none⟩ = some (.int .i64 y2) := k8.cell 1; have k8l : r8 < (W6).heap.size := k8.lt
  have k90 : (W6).cell? ⟨r9, 0, none⟩ = some (.int .i64 w1) := k9.cell 0; have k91 : (W6).cell? ⟨r9, 1, none⟩ = some (.int .i64 w2) := k9.cell 1; have k9l : r9 < (W6).heap.size := k9.lt
  have kcl := kc.2.2
  go_wp2
  apply region_join1 (fun r10 Wz => Over [c] W6 Wz ∧ (CB c o7) Wz ∧ W6.heap.size ≤ r10 ∧ Blk r10 #[.int .i64 a8, .int .i64 b8] 25 Wz)
  · intro hcont
    refine wp_region_cls [c] (fun _ => false) (fun _ => True) (KD (CB c o3) []) (by kernel_rfl) ⟨(CB.closed _ _) _ _ (kc) ((Below.refl _ _).drew), MemL.nil _⟩ ?_
    apply wpAnyF_hd ⟨W6, Over.refl _ _, kc, MemL.nil _⟩ [true, true, true, true, false, true, true, true, true, false, true] 6 (KD.closed (CB.closed _ _) _) (fun _ _ => trivial) (by kernel_rfl) (by kernel_rfl) (by kernel_rfl) (by kernel_rfl) (by simp)
    · intro E hE hEN hEn; (repeat (first | (refine wpHL_take ?_; go_big_quiet_step (fail); refine wpQuiet_nil ?_) | refine wpHL_skip ?_)); exact wpHL_end rfl
    refine wpAnyF_ready [4, 13] 5 (by kernel_rfl) (by kernel_rfl) (by simp) ?_
    refine AllF.cons ?_ ?_
    · refine stepK_call (v := .agg #[.int .i64 a1, .int .i64 b1]) (some 68) (CB c o4) (by rfl) (by rfl) (by rfl) (fun _ => by go_simp) (CB.closed _ _) (fun x hx => by cases hx) (fun w' hC => K4.out c w' hC) (fun hne => ?_)
      simp only [Act.put, List.setIfInBounds_toArray, List.set_cons_succ, List.set_cons_zero]
      refine wpAnyF_ready [9, 13] 4 (by kernel_rfl) (by kernel_rfl) (by simp) ?_
      refine AllF.cons ?_ ?_
      · refine stepK_call (v := .agg #[.int .i64 a2, .int .i64 b2]) (some 73) (CB c o5) (by rfl) (by rfl) (by rfl) (fun _ => by go_simp) (CB.closed _ _) (fun x hx => by cases hx) (fun w' hC => K5.out c w' hC) (fun hne => ?_)
        simp only [Act.put, List.setIfInBounds_toArray, List.set_cons_succ, List.set_cons_zero]
        refine wpAnyF_ready [11, 13] 3 (by kernel_rfl) (by kernel_rfl) (by simp) ?_
        refine AllF.cons ?_ ?_
        · refine stepK_call (v := .agg #[.int .i64 a5, .int .i64 b5]) (some 75) (CB c o6) (by rfl) (by rfl) (by rfl) (fun _ => by go_simp) (CB.closed _ _) (fun x hx => by cases hx) (fun w' hC => K6.out c w' hC) (fun hne => ?_)
          simp only [Act.put, List.setIfInBounds_toArray, List.set_cons_succ, List.set_cons_zero]
          refine wpAnyF_ready [12, 13] 2 (by kernel_rfl) (by kernel_rfl) (by simp) ?_
          refine AllF.cons ?_ ?_
          · refine stepK_call (v := .agg #[.int .i64 a8, .int .i64 b8]) (some 76) (CB c o7) (by rfl) (by rfl) (by rfl) (fun _ => by go_simp) (CB.closed _ _) (fun x hx => by cases hx) (fun w' hC => K7.out c w' hC) (fun hne => ?_)
            simp only [Act.put, List.setIfInBounds_toArray, List.set_cons_succ, List.set_cons_zero]
            refine wpAnyF_ready [13] 1 (by kernel_rfl) (by kernel_rfl) (by simp) ?_
            refine AllF.cons ?_ ?_
            · refine stepK_alloc (zs := #[.int .i64 0, .int .i64 0]) (T := 25) (by rfl) (by rfl) (by rfl) (fun _ => by go_simp) (CB.closed _ _) (fun r10 hr10 hl10 hne => ?_)
              simp only [Act.put, List.setIfInBounds_toArray, List.set_cons_succ, List.set_cons_zero]
              refine wpAnyF_ready [14] 0 (by kernel_rfl) (by kernel_rfl) (by simp) ?_
              refine AllF.cons ?_ ?_
              · refine stepK_store (v := .agg #[.int .i64 a8, .int .i64 b8]) [] [] (by rfl) (by rfl) (by rfl) (by rfl) (by rfl) (by rfl) (fun _ => by go_simp) (by rfl) (by simp [Value.cells, one1]) (.inl hr10) (CB.closed _ _) (fun _ _ h ho => CB.over h ho (by omega)) (by simp) (fun hne => ?_)
                try simp only [Value.cells]
                refine wpAnyF_done (by kernel_rfl) (fun Wz hOz hDz => ?_) _
                exact hcont r10 Wz ⟨hOz, hDz.1, (by omega), hDz.2.head⟩
              exact AllF.nil
            exact AllF.nil
          refine AllF.cons ?_ ?_
          · refine stepK_alloc (zs := #[.int .i64 0, .int .i64 0]) (T := 25) (by rfl) (by rfl) (by rfl) (fun _ => by go_simp) (CB.closed _ _) (fun r10 hr10 hl10 hne => ?_)
            simp only [Act.put, List.setIfInBounds_toArray, List.set_cons_succ, List.set_cons_zero]
            refine wpAnyF_ready [12] 1 (by kernel_rfl) (by kernel_rfl) (by simp) ?_
            refine AllF.cons ?_ ?_
            · refine stepK_call (v := .agg #[.int .i64 a8, .int .i64 b8]) (some 76) (CB c o7) (by rfl) (by rfl) (by rfl) (fun _ => by go_simp) (CB.closed _ _) (by simp; omega) (fun w' hC => K7.out c w' hC) (fun hne => ?_)
              simp only [Act.put, List.setIfInBounds_toArray, List.set_cons_succ, List.set_cons_zero]
              refine wpAnyF_ready [14] 0 (by kernel_rfl) (by kernel_rfl) (by simp) ?_
              refine AllF.cons ?_ ?_
              · refine stepK_store (v := .agg #[.int .i64 a8, .int .i64 b8]) [] [] (by rfl) (by rfl) (by rfl) (by rfl) (by rfl) (by rfl) (fun _ => by go_simp) (by rfl) (by simp [Value.cells, one1]) (.inl hr10) (CB.closed _ _) (fun _ _ h ho => CB.over h ho (by omega)) (by simp) (fun hne => ?_)
                try simp only [Value.cells]
                refine wpAnyF_done (by kernel_rfl) (fun Wz hOz hDz => ?_) _
                exact hcont r10 Wz ⟨hOz, hDz.1, (by omega), hDz.2.head⟩
              exact AllF.nil
            exact AllF.nil
          exact AllF.nil
        refine AllF.cons ?_ ?_
        · refine stepK_alloc (zs := #[.int .i64 0, .int .i64 0]) (T := 25) (by rfl) (by rfl) (by rfl) (fun _ => by go_simp) (CB.closed _ _) (fun r10 hr10 hl10 hne => ?_)
          simp only [Act.put, List.setIfInBounds_toArray, List.set_cons_succ, List.set_cons_zero]
          refine wpAnyF_ready [11] 2 (by kernel_rfl) (by kernel_rfl) (by simp) ?_
          refine AllF.cons ?_ ?_
          · refine stepK_call (v := .agg #[.int .i64 a5, .int .i64 b5]) (some 75) (CB c o6) (by rfl) (by rfl) (by rfl) (fun _ => by go_simp) (CB.closed _ _) (by simp; omega) (fun w' hC => K6.out c w' hC) (fun hne => ?_)
            simp only [Act.put, List.setIfInBounds_toArray, List.set_cons_succ, List.set_cons_zero]
            refine wpAnyF_ready [12] 1 (by kernel_rfl) (by kernel_rfl) (by simp) ?_
            refine AllF.cons ?_ ?_
            · refine stepK_call (v := .agg #[.int .i64 a8, .int .i64 b8]) (some 76) (CB c o7) (by rfl) (by rfl) (by rfl) (fun _ => by go_simp) (CB.closed _ _) (by simp; omega) (fun w' hC => K7.out c w' hC) (fun hne => ?_)
              simp only [Act.put, List.setIfInBounds_toArray, List.set_cons_succ, List.set_cons_zero]
              refine wpAnyF_ready [14] 0 (by kernel_rfl) (by kernel_rfl) (by simp) ?_
              refine AllF.cons ?_ ?_
              · refine stepK_store (v := .agg #[.int .i64 a8, .int .i64 b8]) [] [] (by rfl) (by rfl) (by rfl) (by rfl) (by rfl) (by rfl) (fun _ => by go_simp) (by rfl) (by simp [Value.cells, one1]) (.inl hr10) (CB.closed _ _) (fun _ _ h ho => CB.over h ho (by omega)) (by simp) (fun hne => ?_)
                try simp only [Value.cells]
                refine wpAnyF_done (by kernel_rfl) (fun Wz hOz hDz => ?_) _
                exact hcont r10 Wz ⟨hOz, hDz.1, (by omega), hDz.2.head⟩
              exact AllF.nil
            exact AllF.nil
          exact AllF.nil
        exact AllF.nil
      refine AllF.cons ?_ ?_
      · refine stepK_alloc (zs := #[.int .i64 0, .int .i64 0]) (T := 25) (by rfl) (by rfl) (by rfl) (fun _ => by go_simp) (CB.closed _ _) (fun r10 hr10 hl10 hne => ?_)
        simp only [Act.put, List.setIfInBounds_toArray, List.set_cons_succ, List.set_cons_zero]
        refine wpAnyF_ready [9] 3 (by kernel_rfl) (by kernel_rfl) (by simp) ?_
        refine AllF.cons ?_ ?_
        · refine stepK_call (v := .agg #[.int .i64 a2, .int .i64 b2]) (some 73) (CB c o5) (by rfl) (by rfl) (by rfl) (fun _ => by go_simp) (CB.closed _ _) (by simp; omega) (fun w' hC => K5.out c w' hC) (fun hne => ?_)
          simp only [Act.put, List.setIfInBounds_toArray, List.set_cons_succ, List.set_cons_zero]
          refine wpAnyF_ready [11] 2 (by kernel_rfl) (by kernel_rfl) (by simp) ?_
          refine AllF.cons ?_ ?_
          · refine stepK_call (v := .agg #[.int .i64 a5, .int .i64 b5]) (some 75) (CB c o6) (by rfl) (by rfl) (by rfl) (fun _ => by go_simp) (CB.closed _ _) (by simp; omega) (fun w' hC => K6.out c w' hC) (fun hne => ?_)
            simp only [Act.put, List.setIfInBounds_toArray, List.set_cons_succ, List.set_cons_zero]
            refine wpAnyF_ready [12] 1 (by kernel_rfl) (by kernel_rfl) (by simp) ?_
            refine AllF.cons ?_ ?_
            · refine stepK_call (v := .agg #[.int .i64 a8, .int .i64 b8]) (some 76) (CB c o7) (by rfl) (by rfl) (by rfl) (fun _ => by go_simp) (CB.closed _ _) (by simp; omega) (fun w' hC => K7.out c w' hC) (fun hne => ?_)
              simp only [Act.put, List.setIfInBounds_toArray, List.set_cons_succ, List.set_cons_zero]
              refine wpAnyF_ready [14] 0 (by kernel_rfl) (by kernel_rfl) (by simp) ?_
              refine AllF.cons ?_ ?_
              · refine stepK_store (v := .agg #[.int .i64 a8, .int .i64 b8]) [] [] (by rfl) (by rfl) (by rfl) (by rfl) (by rfl) (by rfl) (fun _ => by go_simp) (by rfl) (by simp [Value.cells, one1]) (.inl hr10) (CB.closed _ _) (fun _ _ h ho => CB.over h ho (by omega)) (by simp) (fun hne => ?_)
                try simp only [Value.cells]
                refine wpAnyF_done (by kernel_rfl) (fun Wz hOz hDz => ?_) _
                exact hcont r10 Wz ⟨hOz, hDz.1, (by omega), hDz.2.head⟩
              exact AllF.nil
            exact AllF.nil
          exact AllF.nil
        exact AllF.nil
      exact AllF.nil
    refine AllF.cons ?_ ?_
    · refine stepK_alloc (zs := #[.int .i64 0, .int .i64 0]) (T := 25) (by rfl) (by rfl) (by rfl) (fun _ => by go_simp) (CB.closed _ _) (fun r10 hr10 hl10 hne => ?_)
      simp only [Act.put, List.setIfInBounds_toArray, List.set_cons_succ, List.set_cons_zero]
      refine wpAnyF_ready [4] 4 (by kernel_rfl) (by kernel_rfl) (by simp) ?_
      refine AllF.cons ?_ ?_
      · refine stepK_call (v := .agg #[.int .i64 a1, .int .i64 b1]) (some 68) (CB c o4) (by rfl) (by rfl) (by rfl) (fun _ => by go_simp) (CB.closed _ _) (by simp; omega) (fun w' hC => K4.out c w' hC) (fun hne => ?_)
        simp only [Act.put, List.setIfInBounds_toArray, List.set_cons_succ, List.set_cons_zero]
        refine wpAnyF_ready [9] 3 (by kernel_rfl) (by kernel_rfl) (by simp) ?_
        refine AllF.cons ?_ ?_
        · refine stepK_call (v := .agg #[.int .i64 a2, .int .i64 b2]) (some 73) (CB c o5) (by rfl) (by rfl) (by rfl) (fun _ => by go_simp) (CB.closed _ _) (by simp; omega) (fun w' hC => K5.out c w' hC) (fun hne => ?_)
          simp only [Act.put, List.setIfInBounds_toArray, List.set_cons_succ, List.set_cons_zero]
          refine wpAnyF_ready [11] 2 (by kernel_rfl) (by kernel_rfl) (by simp) ?_
          refine AllF.cons ?_ ?_
          · refine stepK_call (v := .agg #[.int .i64 a5, .int .i64 b5]) (some 75) (CB c o6) (by rfl) (by rfl) (by rfl) (fun _ => by go_simp) (CB.closed _ _) (by simp; omega) (fun w' hC => K6.out c w' hC) (fun hne => ?_)
            simp only [Act.put, List.setIfInBounds_toArray, List.set_cons_succ, List.set_cons_zero]
            refine wpAnyF_ready [12] 1 (by kernel_rfl) (by kernel_rfl) (by simp) ?_
            refine AllF.cons ?_ ?_
            · refine stepK_call (v := .agg #[.int .i64 a8, .int .i64 b8]) (some 76) (CB c o7) (by rfl) (by rfl) (by rfl) (fun _ => by go_simp) (CB.closed _ _) (by simp; omega) (fun w' hC => K7.out c w' hC) (fun hne => ?_)
              simp only [Act.put, List.setIfInBounds_toArray, List.set_cons_succ, List.set_cons_zero]
              refine wpAnyF_ready [14] 0 (by kernel_rfl) (by kernel_rfl) (by simp) ?_
              refine AllF.cons ?_ ?_
              · refine stepK_store (v := .agg #[.int .i64 a8, .int .i64 b8]) [] [] (by rfl) (by rfl) (by rfl) (by rfl) (by rfl) (by rfl) (fun _ => by go_simp) (by rfl) (by simp [Value.cells, one1]) (.inl hr10) (CB.closed _ _) (fun _ _ h ho => CB.over h ho (by omega)) (by simp) (fun hne => ?_)
                try simp only [Value.cells]
                refine wpAnyF_done (by kernel_rfl) (fun Wz hOz hDz => ?_) _
                exact hcont r10 Wz ⟨hOz, hDz.1, (by omega), hDz.2.head⟩
              exact AllF.nil
            exact AllF.nil
          exact AllF.nil
        exact AllF.nil
      exact AllF.nil
    exact AllF.nil
  try dsimp only
  rintro r10 W7 ⟨hO, hk, hr, k10⟩
  clear kc
  have kc := hk
  clear hk
  have nk10 : r10 ≠ c := by omega
  clear kcl k70 k71 k7l k80 k81 k8l k90 k91 k9l
  replace kP := kP.over hO (by simpa using ncP)
  replace kT := kT.over hO (by simpa using ncT)
  replace k7 := k7.over hO (by simpa using nk7)
  replace k8 := k8.over hO (by simpa using nk8)
  replace k9 := k9.over hO (by simpa using nk9)
  replace hB := hB.trans (hO.below1 hcB hs)
  replace hs := hB.size
  clear hO hr
  have k70 : (W7).cell? ⟨r7, 0, none⟩ = some (.int .i64 x1) := k7.cell 0; have k71 : (W7).cell? ⟨r7, 1, none⟩ = some (.int .i64 x2) := k7.cell 1; have k7l : r7 < (W7).heap.size := k7.lt
  have k80 : (W7).cell? ⟨r8, 0, none⟩ = some (.int .i64 y1) := k8.cell 0; have k81 : (W7).cell? ⟨r8, 1, none⟩ = some (.int .i64 y2) := k8.cell 1; have k8l : r8 < (W7).heap.size := k8.lt
  have kcl := kc.2.2
  go_wp2
  apply region_join1 (fun r11 Wz => Over [c] W7 Wz ∧ (CB c o10) Wz ∧ W7.heap.size ≤ r11 ∧ Blk r11 #[.int .i64 a7, .int .i64 b7] 25 Wz)
  · intro hcont
    refine wp_region_cls [c] (fun _ => false) (fun _ => True) (KD (CB c o7) []) (by kernel_rfl) ⟨(CB.closed _ _) _ _ (kc) ((Below.refl _ _).drew), MemL.nil _⟩ ?_
    apply wpAnyF_hd ⟨W7, Over.refl _ _, kc, MemL.nil _⟩ [true, true, true, true, false, true, true, true] 5 (KD.closed (CB.closed _ _) _) (fun _ _ => trivial) (by kernel_rfl) (by kernel_rfl) (by kernel_rfl) (by kernel_rfl) (by simp)
    · intro E hE hEN hEn; (repeat (first | (refine wpHL_take ?_; go_big_quiet_step (fail); refine wpQuiet_nil ?_) | refine wpHL_skip ?_)); exact wpHL_end rfl
    refine wpAnyF_ready [4, 10] 4 (by kernel_rfl) (by kernel_rfl) (by simp) ?_
    refine AllF.cons ?_ ?_
    · refine stepK_call (v := .agg #[.int .i64 e1, .int .i64 f1]) (some 81) (CB c o8) (by rfl) (by rfl) (by rfl) (fun _ => by go_simp) (CB.closed _ _) (fun x hx => by cases hx) (fun w' hC => K8.out c w' hC) (fun hne => ?_)
      simp only [Act.put, List.setIfInBounds_toArray, List.set_cons_succ, List.set_cons_zero]
      refine wpAnyF_ready [8, 10] 3 (by kernel_rfl) (by kernel_rfl) (by simp) ?_
      refine AllF.cons ?_ ?_
      · refine stepK_call (v := .agg #[.int .i64 a4, .int .i64 b4]) (some 85) (CB c o9) (by rfl) (by rfl) (by rfl) (fun _ => by go_simp) (CB.closed _ _) (fun x hx => by cases hx) (fun w' hC => K9.out c w' hC) (fun hne => ?_)
        simp only [Act.put, List.setIfInBounds_toArray, List.set_cons_succ, List.set_cons_zero]
        refine wpAnyF_ready [9, 10] 2 (by kernel_rfl) (by kernel_rfl) (by simp) ?_
        refine AllF.cons ?_ ?_
        · refine stepK_call (v := .agg #[.int .i64 a7, .int .i64 b7]) (some 86) (CB c o10) (by rfl) (by rfl) (by rfl) (fun _ => by go_simp) (CB.closed _ _) (fun x hx => by cases hx) (fun w' hC => K10.out c w' hC) (fun hne => ?_)
          simp only [Act.put, List.setIfInBounds_toArray, List.set_cons_succ, List.set_cons_zero]
          refine wpAnyF_ready [10] 1 (by kernel_rfl) (by kernel_rfl) (by simp) ?_
          refine AllF.cons ?_ ?_
          · refine stepK_alloc (zs := #[.int .i64 0, .int .i64 0]) (T := 25) (by rfl) (by rfl) (by rfl) (fun _ => by go_simp) (CB.closed _ _) (fun r11 hr11 hl11 hne => ?_)
            simp only [Act.put, List.setIfInBounds_toArray, List.set_cons_succ, List.set_cons_zero]
            refine wpAnyF_ready [11] 0 (by kernel_rfl) (by kernel_rfl) (by simp) ?_
            refine AllF.cons ?_ ?_
            · refine stepK_store (v := .agg #[.int .i64 a7, .int .i64 b7]) [] [] (by rfl) (by rfl) (by rfl) (by rfl) (by rfl) (by rfl) (fun _ => by go_simp) (by rfl) (by simp [Value.cells, one1]) (.inl hr11) (CB.closed _ _) (fun _ _ h ho => CB.over h ho (by omega)) (by simp) (fun hne => ?_)
              try simp only [Value.cells]
              refine wpAnyF_done (by kernel_rfl) (fun Wz hOz hDz => ?_) _
              exact hcont r11 Wz ⟨hOz, hDz.1, (by omega), hDz.2.head⟩
            exact AllF.nil
          exact AllF.nil
        refine AllF.cons ?_ ?_
        · refine stepK_alloc (zs := #[.int .i64 0, .int .i64 0]) (T := 25) (by rfl) (by rfl) (by rfl) (fun _ => by go_simp) (CB.closed _ _) (fun r11 hr11 hl11 hne => ?_)
          simp only [Act.put, List.setIfInBounds_toArray, List.set_cons_succ, List.set_cons_zero]
          refine wpAnyF_ready [9] 1 (by kernel_rfl) (by kernel_rfl) (by simp) ?_
          refine AllF.cons ?_ ?_
          · refine stepK_call (v := .agg #[.int .i64 a7, .int .i64 b7]) (some 86) (CB c o10) (by rfl) (by rfl) (by rfl) (fun _ => by go_simp) (CB.closed _ _) (by simp; omega) (fun w' hC => K10.out c w' hC) (fun hne => ?_)
            simp only [Act.put, List.setIfInBounds_toArray, List.set_cons_succ, List.set_cons_zero]
            refine wpAnyF_ready [11] 0 (by kernel_rfl) (by kernel_rfl) (by simp) ?_
            refine AllF.cons ?_ ?_
            · refine stepK_store (v := .agg #[.int .i64 a7, .int .i64 b7]) [] [] (by rfl) (by rfl) (by rfl) (by rfl) (by rfl) (by rfl) (fun _ => by go_simp) (by rfl) (by simp [Value.cells, one1]) (.inl hr11) (CB.closed _ _) (fun _ _ h ho => CB.over h ho (by omega)) (by simp) (fun hne => ?_)
              try simp only [Value.cells]
              refine wpAnyF_done (by kernel_rfl) (fun Wz hOz hDz => ?_) _
              exact hcont r11 Wz ⟨hOz, hDz.1, (by omega), hDz.2.head⟩
            exact AllF.nil
          exact AllF.nil
        exact AllF.nil
      refine AllF.cons ?_ ?_
      · refine stepK_alloc (zs := #[.int .i64 0, .int .i64 0]) (T := 25) (by rfl) (by rfl) (by rfl) (fun _ => by go_simp) (CB.closed _ _) (fun r11 hr11 hl11 hne => ?_)
        simp only [Act.put, List.setIfInBounds_toArray, List.set_cons_succ, List.set_cons_zero]
        refine wpAnyF_ready [8] 2 (by kernel_rfl) (by kernel_rfl) (by simp) ?_
        refine AllF.cons ?_ ?_
        · refine stepK_call (v := .agg #[.int .i64 a4, .int .i64 b4]) (some 85) (CB c o9) (by rfl) (by rfl) (by rfl) (fun _ => by go_simp) (CB.closed _ _) (by simp; omega) (fun w' hC => K9.out c w' hC) (fun hne => ?_)
          simp only [Act.put, List.setIfInBounds_toArray, List.set_cons_succ, List.set_cons_zero]
          refine wpAnyF_ready [9] 1 (by kernel_rfl) (by kernel_rfl) (by simp) ?_
          refine AllF.cons ?_ ?_
          · refine stepK_call (v := .agg #[.int .i64 a7, .int .i64 b7]) (some 86) (CB c o10) (by rfl) (by rfl) (by rfl) (fun _ => by go_simp) (CB.closed _ _) (by simp; omega) (fun w' hC => K10.out c w' hC) (fun hne => ?_)
            simp only [Act.put, List.setIfInBounds_toArray, List.set_cons_succ, List.set_cons_zero]
            refine wpAnyF_ready [11] 0 (by kernel_rfl) (by kernel_rfl) (by simp) ?_
            refine AllF.cons ?_ ?_
            · refine stepK_store (v := .agg #[.int .i64 a7, .int .i64 b7]) [] [] (by rfl) (by rfl) (by rfl) (by rfl) (by rfl) (by rfl) (fun _ => by go_simp) (by rfl) (by simp [Value.cells, one1]) (.inl hr11) (CB.closed _ _) (fun _ _ h ho => CB.over h ho (by omega)) (by simp) (fun hne => ?_)
              try simp only [Value.cells]
              refine wpAnyF_done (by kernel_rfl) (fun Wz hOz hDz => ?_) _
              exact hcont r11 Wz ⟨hOz, hDz.1, (by omega), hDz.2.head⟩
            exact AllF.nil
          exact AllF.nil
        exact AllF.nil
      exact AllF.nil
    refine AllF.cons ?_ ?_
    · refine stepK_alloc (zs := #[.int .i64 0, .int .i64 0]) (T := 25) (by rfl) (by rfl) (by rfl) (fun _ => by go_simp) (CB.closed _ _) (fun r11 hr11 hl11 hne => ?_)
      simp only [Act.put, List.setIfInBounds_toArray, List.set_cons_succ, List.set_cons_zero]
      refine wpAnyF_ready [4] 3 (by kernel_rfl) (by kernel_rfl) (by simp) ?_
      refine AllF.cons ?_ ?_
      · refine stepK_call (v := .agg #[.int .i64 e1, .int .i64 f1]) (some 81) (CB c o8) (by rfl) (by rfl) (by rfl) (fun _ => by go_simp) (CB.closed _ _) (by simp; omega) (fun w' hC => K8.out c w' hC) (fun hne => ?_)
        simp only [Act.put, List.setIfInBounds_toArray, List.set_cons_succ, List.set_cons_zero]
        refine wpAnyF_ready [8] 2 (by kernel_rfl) (by kernel_rfl) (by simp) ?_
        refine AllF.cons ?_ ?_
        · refine stepK_call (v := .agg #[.int .i64 a4, .int .i64 b4]) (some 85) (CB c o9) (by rfl) (by rfl) (by rfl) (fun _ => by go_simp) (CB.closed _ _) (by simp; omega) (fun w' hC => K9.out c w' hC) (fun hne => ?_)
          simp only [Act.put, List.setIfInBounds_toArray, List.set_cons_succ, List.set_cons_zero]
          refine wpAnyF_ready [9] 1 (by kernel_rfl) (by kernel_rfl) (by simp) ?_
          refine AllF.cons ?_ ?_
          · refine stepK_call (v := .agg #[.int .i64 a7, .int .i64 b7]) (some 86) (CB c o10) (by rfl) (by rfl) (by rfl) (fun _ => by go_simp) (CB.closed _ _) (by simp; omega) (fun w' hC => K10.out c w' hC) (fun hne => ?_)
            simp only [Act.put, List.setIfInBounds_toArray, List.set_cons_succ, List.set_cons_zero]
            refine wpAnyF_ready [11] 0 (by kernel_rfl) (by kernel_rfl) (by simp) ?_
            refine AllF.cons ?_ ?_
            · refine stepK_store (v := .agg #[.int .i64 a7, .int .i64 b7]) [] [] (by rfl) (by rfl) (by rfl) (by rfl) (by rfl) (by rfl) (fun _ => by go_simp) (by rfl) (by simp [Value.cells, one1]) (.inl hr11) (CB.closed _ _) (fun _ _ h ho => CB.over h ho (by omega)) (by simp) (fun hne => ?_)
              try simp only [Value.cells]
              refine wpAnyF_done (by kernel_rfl) (fun Wz hOz hDz => ?_) _
              exact hcont r11 Wz ⟨hOz, hDz.1, (by omega), hDz.2.head⟩
            exact AllF.nil
          exact AllF.nil
        exact AllF.nil
      exact AllF.nil
    exact AllF.nil
  try dsimp only
  rintro r11 W8 ⟨hO, hk, hr, k11⟩
  clear kc
  have kc := hk
  clear hk
  have nk11 : r11 ≠ c := by omega
  clear kcl k70 k71 k7l k80 k81 k8l
  replace kP := kP.over hO (by simpa using ncP)
  replace kT := kT.over hO (by simpa using ncT)
  replace k7 := k7.over hO (by simpa using nk7)
  replace k8 := k8.over hO (by simpa using nk8)
  replace k9 := k9.over hO (by simpa using nk9)
  replace k10 := k10.over hO (by simpa using nk10)
  replace hB := hB.trans (hO.below1 hcB hs)
  replace hs := hB.size
  clear hO hr
  have k70 : (W8).cell? ⟨r7, 0, none⟩ = some (.int .i64 x1) := k7.cell 0; have k71 : (W8).cell? ⟨r7, 1, none⟩ = some (.int .i64 x2) := k7.cell 1; have k7l : r7 < (W8).heap.size := k7.lt
  have k80 : (W8).cell? ⟨r8, 0, none⟩ = some (.int .i64 y1) := k8.cell 0; have k81 : (W8).cell? ⟨r8, 1, none⟩ = some (.int .i64 y2) := k8.cell 1; have k8l : r8 < (W8).heap.size := k8.lt
  have k90 : (W8).cell? ⟨r9, 0, none⟩ = some (.int .i64 w1) := k9.cell 0; have k91 : (W8).cell? ⟨r9, 1, none⟩ = some (.int .i64 w2) := k9.cell 1; have k9l : r9 < (W8).heap.size := k9.lt
  have kcl := kc.2.2
  go_wp2
  apply region_join1 (fun r12 Wz => Over [c] W8 Wz ∧ (CB c o14) Wz ∧ W8.heap.size ≤ r12 ∧ Blk r12 #[.int .i64 a9, .int .i64 b9] 25 Wz)
  · intro hcont
    refine wp_region_cls [c] (fun _ => false) (fun _ => True) (KD (CB c o10) []) (by kernel_rfl) ⟨(CB.closed _ _) _ _ (kc) ((Below.refl _ _).drew), MemL.nil _⟩ ?_
    apply wpAnyF_hd ⟨W8, Over.refl _ _, kc, MemL.nil _⟩ [true, true, true, true, true, false, true, true, true, false, false, true] 6 (KD.closed (CB.closed _ _) _) (fun _ _ => trivial) (by kernel_rfl) (by kernel_rfl) (by kernel_rfl) (by kernel_rfl) (by simp)
    · intro E hE hEN hEn; (repeat (first | (refine wpHL_take ?_; go_big_quiet_step (fail); refine wpQuiet_nil ?_) | refine wpHL_skip ?_)); exact wpHL_end rfl
    refine wpAnyF_ready [5, 13] 5 (by kernel_rfl) (by kernel_rfl) (by simp) ?_
    refine AllF.cons ?_ ?_
    · refine stepK_call (v := .agg #[.int .i64 a3, .int .i64 b3]) (some 92) (CB c o11) (by rfl) (by rfl) (by rfl) (fun _ => by go_simp) (CB.closed _ _) (fun x hx => by cases hx) (fun w' hC => K11.out c w' hC) (fun hne => ?_)
      simp only [Act.put, List.setIfInBounds_toArray, List.set_cons_succ, List.set_cons_zero]
      refine wpAnyF_ready [9, 13] 4 (by kernel_rfl) (by kernel_rfl) (by simp) ?_
      refine AllF.cons ?_ ?_
      · refine stepK_call (v := .agg #[.int .i64 e2, .int .i64 f2]) (some 96) (CB c o12) (by rfl) (by rfl) (by rfl) (fun _ => by go_simp) (CB.closed _ _) (fun x hx => by cases hx) (fun w' hC => K12.out c w' hC) (fun hne => ?_)
        simp only [Act.put, List.setIfInBounds_toArray, List.set_cons_succ, List.set_cons_zero]
        refine wpAnyF_ready [10, 13] 3 (by kernel_rfl) (by kernel_rfl) (by simp) ?_
        refine AllF.cons ?_ ?_
        · refine stepK_call (v := .agg #[.int .i64 a6, .int .i64 b6]) (some 97) (CB c o13) (by rfl) (by rfl) (by rfl) (fun _ => by go_simp) (CB.closed _ _) (fun x hx => by cases hx) (fun w' hC => K13.out c w' hC) (fun hne => ?_)
          simp only [Act.put, List.setIfInBounds_toArray, List.set_cons_succ, List.set_cons_zero]
          refine wpAnyF_ready [12, 13] 2 (by kernel_rfl) (by kernel_rfl) (by simp) ?_
          refine AllF.cons ?_ ?_
          · refine stepK_call (v := .agg #[.int .i64 a9, .int .i64 b9]) (some 99) (CB c o14) (by rfl) (by rfl) (by rfl) (fun _ => by go_simp) (CB.closed _ _) (fun x hx => by cases hx) (fun w' hC => K14.out c w' hC) (fun hne => ?_)
            simp only [Act.put, List.setIfInBounds_toArray, List.set_cons_succ, List.set_cons_zero]
            refine wpAnyF_ready [13] 1 (by kernel_rfl) (by kernel_rfl) (by simp) ?_
            refine AllF.cons ?_ ?_
            · refine stepK_alloc (zs := #[.int .i64 0, .int .i64 0]) (T := 25) (by rfl) (by rfl) (by rfl) (fun _ => by go_simp) (CB.closed _ _) (fun r12 hr12 hl12 hne => ?_)
              simp only [Act.put, List.setIfInBounds_toArray, List.set_cons_succ, List.set_cons_zero]
              refine wpAnyF_ready [14] 0 (by kernel_rfl) (by kernel_rfl) (by simp) ?_
              refine AllF.cons ?_ ?_
              · refine stepK_store (v := .agg #[.int .i64 a9, .int .i64 b9]) [] [] (by rfl) (by rfl) (by rfl) (by rfl) (by rfl) (by rfl) (fun _ => by go_simp) (by rfl) (by simp [Value.cells, one1]) (.inl hr12) (CB.closed _ _) (fun _ _ h ho => CB.over h ho (by omega)) (by simp) (fun hne => ?_)
                try simp only [Value.cells]
                refine wpAnyF_done (by kernel_rfl) (fun Wz hOz hDz => ?_) _
                exact hcont r12 Wz ⟨hOz, hDz.1, (by omega), hDz.2.head⟩
              exact AllF.nil
            exact AllF.nil
          refine AllF.cons ?_ ?_
          · refine stepK_alloc (zs := #[.int .i64 0, .int .i64 0]) (T := 25) (by rfl) (by rfl) (by rfl) (fun _ => by go_simp) (CB.closed _ _) (fun r12 hr12 hl12 hne => ?_)
            simp only [Act.put, List.setIfInBounds_toArray, List.set_cons_succ, List.set_cons_zero]
            refine wpAnyF_ready [12] 1 (by kernel_rfl) (by kernel_rfl) (by simp) ?_
            refine AllF.cons ?_ ?_
            · refine stepK_call (v := .agg #[.int .i64 a9, .int .i64 b9]) (some 99) (CB c o14) (by rfl) (by rfl) (by rfl) (fun _ => by go_simp) (CB.closed _ _) (by simp; omega) (fun w' hC => K14.out c w' hC) (fun hne => ?_)
              simp only [Act.put, List.setIfInBounds_toArray, List.set_cons_succ, List.set_cons_zero]
              refine wpAnyF_ready [14] 0 (by kernel_rfl) (by kernel_rfl) (by simp) ?_
              refine AllF.cons ?_ ?_
              · refine stepK_store (v := .agg #[.int .i64 a9, .int .i64 b9]) [] [] (by rfl) (by rfl) (by rfl) (by rfl) (by rfl) (by rfl) (fun _ => by go_simp) (by rfl) (by simp [Value.cells, one1]) (.inl hr12) (CB.closed _ _) (fun _ _ h ho => CB.over h ho (by omega)) (by simp) (fun hne => ?_)
                try simp only [Value.cells]
                refine wpAnyF_done (by kernel_rfl) (fun Wz hOz hDz => ?_) _
                exact hcont r12 Wz ⟨hOz, hDz.1, (by omega), hDz.2.head⟩
              exact AllF.nil
            exact AllF.nil
          exact AllF.nil
        refine AllF.cons ?_ ?_
        · refine stepK_alloc (zs := #[.int .i64 0, .int .i64 0]) (T := 25) (by rfl) (by rfl) (by rfl) (fun _ => by go_simp) (CB.closed _ _) (fun r12 hr12 hl12 hne => ?_)
          simp only [Act.put, List.setIfInBounds_toArray, List.set_cons_succ, List.set_cons_zero]
          refine wpAnyF_ready [10] 2 (by kernel_rfl) (by kernel_rfl) (by simp) ?_
          refine AllF.cons ?_ ?_
          · refine stepK_call (v := .agg #[.int .i64 a6, .int .i64 b6]) (some 97) (CB c o13) (by rfl) (by rfl) (by rfl) (fun _ => by go_simp) (CB.closed _ _) (by simp; omega) (fun w' hC => K13.out c w' hC) (fun hne => ?_)
            simp only [Act.put, List.setIfInBounds_toArray, List.set_cons_succ, List.set_cons_zero]
            refine wpAnyF_ready [12] 1 (by kernel_rfl) (by kernel_rfl) (by simp) ?_
            refine AllF.cons ?_ ?_
            · refine stepK_call (v := .agg #[.int .i64 a9, .int .i64 b9]) (some 99) (CB c o14) (by rfl) (by rfl) (by rfl) (fun _ => by go_simp) (CB.closed _ _) (by simp; omega) (fun w' hC => K14.out c w' hC) (fun hne => ?_)
              simp only [Act.put, List.setIfInBounds_toArray, List.set_cons_succ, List.set_cons_zero]
              refine wpAnyF_ready [14] 0 (by kernel_rfl) (by kernel_rfl) (by simp) ?_
              refine AllF.cons ?_ ?_
              · refine stepK_store (v := .agg #[.int .i64 a9, .int .i64 b9]) [] [] (by rfl) (by rfl) (by rfl) (by rfl) (by rfl) (by rfl) (fun _ => by go_simp) (by rfl) (by simp [Value.cells, one1]) (.inl hr12) (CB.closed _ _) (fun _ _ h ho => CB.over h ho (by omega)) (by simp) (fun hne => ?_)
                try simp only [Value.cells]
                refine wpAnyF_done (by kernel_rfl) (fun Wz hOz hDz => ?_) _
                exact hcont r12 Wz ⟨hOz, hDz.1, (by omega), hDz.2.head⟩
              exact AllF.nil
            exact AllF.nil
          exact AllF.nil
        exact AllF.nil
      refine AllF.cons ?_ ?_
      · refine stepK_alloc (zs := #[.int .i64 0, .int .i64 0]) (T := 25) (by rfl) (by rfl) (by rfl) (fun _ => by go_simp) (CB.closed _ _) (fun r12 hr12 hl12 hne => ?_)
        simp only [Act.put, List.setIfInBounds_toArray, List.set_cons_succ, List.set_cons_zero]
        refine wpAnyF_ready [9] 3 (by kernel_rfl) (by kernel_rfl) (by simp) ?_
        refine AllF.cons ?_ ?_
        · refine stepK_call (v := .agg #[.int .i64 e2, .int .i64 f2]) (some 96) (CB c o12) (by rfl) (by rfl) (by rfl) (fun _ => by go_simp) (CB.closed _ _) (by simp; omega) (fun w' hC => K12.out c w' hC) (fun hne => ?_)
          simp only [Act.put, List.setIfInBounds_toArray, List.set_cons_succ, List.set_cons_zero]
          refine wpAnyF_ready [10] 2 (by kernel_rfl) (by kernel_rfl) (by simp) ?_
          refine AllF.cons ?_ ?_
          · refine stepK_call (v := .agg #[.int .i64 a6, .int .i64 b6]) (some 97) (CB c o13) (by rfl) (by rfl) (by rfl) (fun _ => by go_simp) (CB.closed _ _) (by simp; omega) (fun w' hC => K13.out c w' hC) (fun hne => ?_)
            simp only [Act.put, List.setIfInBounds_toArray, List.set_cons_succ, List.set_cons_zero]
            refine wpAnyF_ready [12] 1 (by kernel_rfl) (by kernel_rfl) (by simp) ?_
            refine AllF.cons ?_ ?_
            · refine stepK_call (v := .agg #[.int .i64 a9, .int .i64 b9]) (some 99) (CB c o14) (by rfl) (by rfl) (by rfl) (fun _ => by go_simp) (CB.closed _ _) (by simp; omega) (fun w' hC => K14.out c w' hC) (fun hne => ?_)
              simp only [Act.put, List.setIfInBounds_toArray, List.set_cons_succ, List.set_cons_zero]
              refine wpAnyF_ready [14] 0 (by kernel_rfl) (by kernel_rfl) (by simp) ?_
              refine AllF.cons ?_ ?_
              · refine stepK_store (v := .agg #[.int .i64 a9, .int .i64 b9]) [] [] (by rfl) (by rfl) (by rfl) (by rfl) (by rfl) (by rfl) (fun _ => by go_simp) (by rfl) (by simp [Value.cells, one1]) (.inl hr12) (CB.closed _ _) (fun _ _ h ho => CB.over h ho (by omega)) (by simp) (fun hne => ?_)
                try simp only [Value.cells]
                refine wpAnyF_done (by kernel_rfl) (fun Wz hOz hDz => ?_) _
                exact hcont r12 Wz ⟨hOz, hDz.1, (by omega), hDz.2.head⟩
              exact AllF.nil
            exact AllF.nil
          exact AllF.nil
        exact AllF.nil
      exact AllF.nil
    refine AllF.cons ?_ ?_
    · refine stepK_alloc (zs := #[.int .i64 0, .int .i64 0]) (T := 25) (by rfl) (by rfl) (by rfl) (fun _ => by go_simp) (CB.closed _ _) (fun r12 hr12 hl12 hne => ?_)
      simp only [Act.put, List.setIfInBounds_toArray, List.set_cons_succ, List.set_cons_zero]
      refine wpAnyF_ready [5] 4 (by kernel_rfl) (by kernel_rfl) (by simp) ?_
      refine AllF.cons ?_ ?_
      · refine stepK_call (v := .agg #[.int .i64 a3, .int .i64 b3]) (some 92) (CB c o11) (by rfl) (by rfl) (by rfl) (fun _ => by go_simp) (CB.closed _ _) (by simp; omega) (fun w' hC => K11.out c w' hC) (fun hne => ?_)
        simp only [Act.put, List.setIfInBounds_toArray, List.set_cons_succ, List.set_cons_zero]
        refine wpAnyF_ready [9] 3 (by kernel_rfl) (by kernel_rfl) (by simp) ?_
        refine AllF.cons ?_ ?_
        · refine stepK_call (v := .agg #[.int .i64 e2, .int .i64 f2]) (some 96) (CB c o12) (by rfl) (by rfl) (by rfl) (fun _ => by go_simp) (CB.closed _ _) (by simp; omega) (fun w' hC => K12.out c w' hC) (fun hne => ?_)
          simp only [Act.put, List.setIfInBounds_toArray, List.set_cons_succ, List.set_cons_zero]
          refine wpAnyF_ready [10] 2 (by kernel_rfl) (by kernel_rfl) (by simp) ?_
          refine AllF.cons ?_ ?_
          · refine stepK_call (v := .agg #[.int .i64 a6, .int .i64 b6]) (some 97) (CB c o13) (by rfl) (by rfl) (by rfl) (fun _ => by go_simp) (CB.closed _ _) (by simp; omega) (fun w' hC => K13.out c w' hC) (fun hne => ?_)
            simp only [Act.put, List.setIfInBounds_toArray, List.set_cons_succ, List.set_cons_zero]
            refine wpAnyF_ready [12] 1 (by kernel_rfl) (by kernel_rfl) (by simp) ?_
            refine AllF.cons ?_ ?_
            · refine stepK_call (v := .agg #[.int .i64 a9, .int .i64 b9]) (some 99) (CB c o14) (by rfl) (by rfl) (by rfl) (fun _ => by go_simp) (CB.closed _ _) (by simp; omega) (fun w' hC => K14.out c w' hC) (fun hne => ?_)
              simp only [Act.put, List.setIfInBounds_toArray, List.set_cons_succ, List.set_cons_zero]
              refine wpAnyF_ready [14] 0 (by kernel_rfl) (by kernel_rfl) (by simp) ?_
              refine AllF.cons ?_ ?_
              · refine stepK_store (v := .agg #[.int .i64 a9, .int .i64 b9]) [] [] (by rfl) (by rfl) (by rfl) (by rfl) (by rfl) (by rfl) (fun _ => by go_simp) (by rfl) (by simp [Value.cells, one1]) (.inl hr12) (CB.closed _ _) (fun _ _ h ho => CB.over h ho (by omega)) (by simp) (fun hne => ?_)
                try simp only [Value.cells]
                refine wpAnyF_done (by kernel_rfl) (fun Wz hOz hDz => ?_) _
                exact hcont r12 Wz ⟨hOz, hDz.1, (by omega), hDz.2.head⟩
              exact AllF.nil
            exact AllF.nil
          exact AllF.nil
        exact AllF.nil
      exact AllF.nil
    exact AllF.nil
  try dsimp only
  rintro r12 W9a ⟨hO, hk, hr, k12⟩
  clear kc
  have kc := hk
  clear hk
  have nk12 : r12 ≠ c := by omega
  clear kcl k70 k71 k7l k80 k81 k8l k90 k91 k9l
  replace kP := kP.over hO (by simpa using ncP)
  replace kT := kT.over hO (by simpa using ncT)
  replace k7 := k7.over hO (by simpa using nk7)
  replace k8 := k8.over hO (by simpa using nk8)
  replace k9 := k9.over hO (by simpa using nk9)
  replace k10 := k10.over hO (by simpa using nk10)
  replace k11 := k11.over hO (by simpa using nk11)
  replace hB := hB.trans (hO.below1 hcB hs)
  replace hs := hB.size
  clear hO hr
  have kc0 := kc.1
  have kcl := kc.2.2
  clear K1 K2 K3 K4 K5 K6 K7 K8 K9 K10 K11 K12 K13 K14 H1 H2 k7 k8 k9 kP
  cases o14
  · have kT0 : (W9a).cell? ⟨w.heap.size + 1, 0, none⟩ = some (.int .i64 0) := kT.cell 0; have kT1 : (W9a).cell? ⟨w.heap.size + 1, 1, none⟩ = some (.int .i64 0) := kT.cell 1; have kT2 : (W9a).cell? ⟨w.heap.size + 1, 2, none⟩ = some (.int .i64 0) := kT.cell 2; have kT3 : (W9a).cell? ⟨w.heap.size + 1, 3, none⟩ = some (.int .i64 0) := kT.cell 3; have kT4 : (W9a).cell? ⟨w.heap.size + 1, 4, none⟩ = some (.int .i64 0) := kT.cell 4; have kT5 : (W9a).cell? ⟨w.heap.size + 1, 5, none⟩ = some (.int .i64 0) := kT.cell 5; have kTf0 : (W9a).frozen? ⟨w.heap.size + 1, 0, none⟩ = false := kT.frozen 0; have kTf1 : (W9a).frozen? ⟨w.heap.size + 1, 1, none⟩ = false := kT.frozen 1; have kTf2 : (W9a).frozen? ⟨w.heap.size + 1, 2, none⟩ = false := kT.frozen 2; have kTf3 : (W9a).frozen? ⟨w.heap.size + 1, 3, none⟩ = false := kT.frozen 3; have kTf4 : (W9a).frozen? ⟨w.heap.size + 1, 4, none⟩ = false := kT.frozen 4; have kTf5 : (W9a).frozen? ⟨w.heap.size + 1, 5, none⟩ = false := kT.frozen 5; have kTl : w.heap.size + 1 < (W9a).heap.size := kT.lt
    go_wp2
    have R := ((((((kT.set 0 (.int .i64 0)).set 1 (.int .i64 0)).set 2 (.int .i64 0)).set 3 (.int .i64 0)).set 4 (.int .i64 0)).set 5 (.int .i64 0))
    have hR : Below w.heap.size w ((((((W9a.setCell ⟨w.heap.size + 1, 0, none⟩ (.int .i64 0)).setCell ⟨w.heap.size + 1, 1, none⟩ (.int .i64 0)).setCell ⟨w.heap.size + 1, 2, none⟩ (.int .i64 0)).setCell ⟨w.heap.size + 1, 3, none⟩ (.int .i64 0)).setCell ⟨w.heap.size + 1, 4, none⟩ (.int .i64 0)).setCell ⟨w.heap.size + 1, 5, none⟩ (.int .i64 0)) := by (repeat' (first | (with_reducible exact Below.refl _ _) | (with_reducible refine below_step (by assumption) ?_ ?_) | (with_reducible refine Below.alloc ?_ ?_ _) | (with_reducible refine Below.setCell ?_ ?_ _) | (with_reducible refine below_drewN ?_ _) | (with_reducible refine Below.drew ?_) | omega | (simp; omega) | (simp; done)))
    simp only [List.setIfInBounds_toArray, List.set_cons_zero, List.set_cons_succ] at R
    clear kT kT0 kT1 kT2 kT3 kT4 kT5 kTf0 kTf1 kTf2 kTf3 kTf4 kTf5 kTl
    generalize ((((((W9a.setCell ⟨w.heap.size + 1, 0, none⟩ (.int .i64 0)).setCell ⟨w.heap.size + 1, 1, none⟩ (.int .i64 0)).setCell ⟨w.heap.size + 1, 2, none⟩ (.int .i64 0)).setCell ⟨w.heap.size + 1, 3, none⟩ (.int .i64 0)).setCell ⟨w.heap.size + 1, 4, none⟩ (.int .i64 0)).setCell ⟨w.heap.size + 1, 5, none⟩ (.int .i64 0)) = W9 at R hR ⊢
    have R0 : (W9).cell? ⟨w.heap.size + 1, 0, none⟩ = some (.int .i64 0) := R.cell 0; have R1 : (W9).cell? ⟨w.heap.size + 1, 1, none⟩ = some (.int .i64 0) := R.cell 1; have R2 : (W9).cell? ⟨w.heap.size + 1, 2, none⟩ = some (.int .i64 0) := R.cell 2; have R3 : (W9).cell? ⟨w.heap.size + 1, 3, none⟩ = some (.int .i64 0) := R.cell 3; have R4 : (W9).cell? ⟨w.heap.size + 1, 4, none⟩ = some (.int .i64 0) := R.cell 4; have R5 : (W9).cell? ⟨w.heap.size + 1, 5, none⟩ = some (.int .i64 0) := R.cell 5; have Rl : w.heap.size + 1 < (W9).heap.size := R.lt
    refine bodyPost_ret (v := .tuple #[.agg #[.int .i64 0, .int .i64 0, .int .i64 0, .int .i64 0, .int .i64 0, .int .i64 0], .bool false]) (by simp [results, Try.results7, go_sem, R0, R1, R2, R3, R4, R5]) rfl ?_
    exact tofP_no rfl hR
  have IC := (HO.out rfl)
  obtain ⟨p1, p2, p3, p4, p5, p6, hf⟩ := ordV_form a8 b8 a7 b7 a9 b9
  have HF := Lib.hid hf
  rw [hf] at IC
  have ID := Lib.hid IC
  clear hf IC HO
  have k100 : (W9a).cell? ⟨r10, 0, none⟩ = some (.int .i64 a8) := k10.cell 0; have k101 : (W9a).cell? ⟨r10, 1, none⟩ = some (.int .i64 b8) := k10.cell 1; have k10l : r10 < (W9a).heap.size := k10.lt
  have k110 : (W9a).cell? ⟨r11, 0, none⟩ = some (.int .i64 a7) := k11.cell 0; have k111 : (W9a).cell? ⟨r11, 1, none⟩ = some (.int .i64 b7) := k11.cell 1; have k11l : r11 < (W9a).heap.size := k11.lt
  have k120 : (W9a).cell? ⟨r12, 0, none⟩ = some (.int .i64 a9) := k12.cell 0; have k121 : (W9a).cell? ⟨r12, 1, none⟩ = some (.int .i64 b9) := k12.cell 1; have k12l : r12 < (W9a).heap.size := k12.lt
  go_wp2_with fail
  refine (ID.out _).mono ?_
  rintro e u ⟨rfl, hb⟩
  replace kT := kT.next hb
  replace hB := below_step hb hs hB
  replace hs := hB.size
  clear k100 k101 k10l k110 k111 k11l k120 k121 k12l kc0 kcl kc
  have kT0 : (u).cell? ⟨w.heap.size + 1, 0, none⟩ = some (.int .i64 0) := kT.cell 0; have kT1 : (u).cell? ⟨w.heap.size + 1, 1, none⟩ = some (.int .i64 0) := kT.cell 1; have kT2 : (u).cell? ⟨w.heap.size + 1, 2, none⟩ = some (.int .i64 0) := kT.cell 2; have kT3 : (u).cell? ⟨w.heap.size + 1, 3, none⟩ = some (.int .i64 0) := kT.cell 3; have kT4 : (u).cell? ⟨w.heap.size + 1, 4, none⟩ = some (.int .i64 0) := kT.cell 4; have kT5 : (u).cell? ⟨w.heap.size + 1, 5, none⟩ = some (.int .i64 0) := kT.cell 5; have kTf0 : (u).frozen? ⟨w.heap.size + 1, 0, none⟩ = false := kT.frozen 0; have kTf1 : (u).frozen? ⟨w.heap.size + 1, 1, none⟩ = false := kT.frozen 1; have kTf2 : (u).frozen? ⟨w.heap.size + 1, 2, none⟩ = false := kT.frozen 2; have kTf3 : (u).frozen? ⟨w.heap.size + 1, 3, none⟩ = false := kT.frozen 3; have kTf4 : (u).frozen? ⟨w.heap.size + 1, 4, none⟩ = false := kT.frozen 4; have kTf5 : (u).frozen? ⟨w.heap.size + 1, 5, none⟩ = false := kT.frozen 5; have kTl : w.heap.size + 1 < (u).heap.size := kT.lt
  go_wp2
  have R := ((((((kT.set 0 (.int .i64 p1)).set 1 (.int .i64 p2)).set 2 (.int .i64 p3)).set 3 (.int .i64 p4)).set 4 (.int .i64 p5)).set 5 (.int .i64 p6))
  have hR : Below w.heap.size w ((((((u.setCell ⟨w.heap.size + 1, 0, none⟩ (.int .i64 p1)).setCell ⟨w.heap.size + 1, 1, none⟩ (.int .i64 p2)).setCell ⟨w.heap.size + 1, 2, none⟩ (.int .i64 p3)).setCell ⟨w.heap.size + 1, 3, none⟩ (.int .i64 p4)).setCell ⟨w.heap.size + 1, 4, none⟩ (.int .i64 p5)).setCell ⟨w.heap.size + 1, 5, none⟩ (.int .i64 p6)) := by (repeat' (first | (with_reducible exact Below.refl _ _) | (with_reducible refine below_step (by assumption) ?_ ?_) | (with_reducible refine Below.alloc ?_ ?_ _) | (with_reducible refine Below.setCell ?_ ?_ _) | (with_reducible refine below_drewN ?_ _) | (with_reducible refine Below.drew ?_) | omega | (simp; omega) | (simp; done)))
  simp only [List.setIfInBounds_toArray, List.set_cons_zero, List.set_cons_succ] at R
  clear kT kT0 kT1 kT2 kT3 kT4 kT5 kTf0 kTf1 kTf2 kTf3 kTf4 kTf5 kTl
  generalize ((((((u.setCell ⟨w.heap.size + 1, 0, none⟩ (.int .i64 p1)).setCell ⟨w.heap.size + 1, 1, none⟩ (.int .i64 p2)).setCell ⟨w.heap.size + 1, 2, none⟩ (.int .i64 p3)).setCell ⟨w.heap.size + 1, 3, none⟩ (.int .i64 p4)).setCell ⟨w.heap.size + 1, 4, none⟩ (.int .i64 p5)).setCell ⟨w.heap.size + 1, 5, none⟩ (.int .i64 p6)) = W9 at R hR ⊢
  have R0 : (W9).cell? ⟨w.heap.size + 1, 0, none⟩ = some (.int .i64 p1) := R.cell 0; have R1 : (W9).cell? ⟨w.heap.size + 1, 1, none⟩ = some (.int .i64 p2) := R.cell 1; have R2 : (W9).cell? ⟨w.heap.size + 1, 2, none⟩ = some (.int .i64 p3) := R.cell 2; have R3 : (W9).cell? ⟨w.heap.size + 1, 3, none⟩ = some (.int .i64 p4) := R.cell 3; have R4 : (W9).cell? ⟨w.heap.size + 1, 4, none⟩ = some (.int .i64 p5) := R.cell 4; have R5 : (W9).cell? ⟨w.heap.size + 1, 5, none⟩ = some (.int .i64 p6) := R.cell 5; have Rl : w.heap.size + 1 < (W9).heap.size := R.lt
  refine bodyPost_ret (v := .tuple #[.agg #[.int .i64 p1, .int .i64 p2, .int .i64 p3, .int .i64 p4, .int .i64 p5, .int .i64 p6], .bool true]) (by simp [results, Try.results7, go_sem, R0, R1, R2, R3, R4, R5]) rfl ?_
  exact tofP_yes rfl HF.out hR
end Go.Proofs.Ytcnfjapoopdiaaa
