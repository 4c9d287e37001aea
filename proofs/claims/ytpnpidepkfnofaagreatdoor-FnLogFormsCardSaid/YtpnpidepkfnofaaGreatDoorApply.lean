/- Walks: applying a step to a curve. -/
import Derived.Test.YtpnpidepkfnofaaGreatDoorStep
namespace Go.Proofs.YtpnpidepkfnofaaGreatDoor
open Go.RowKit

theorem dvB_c {A B v : Int} : dvB A B v = ((A.tmod (v * v * v * v) == 0) && (B.tmod (v * v * v * v * v * v) == 0)) := by unfold dvB; rw [tmod_beq, tmod_beq]
theorem pw_eq (v : Int) : v * v * (v * v) = v * v * v * v ∧ v * v * (v * v) * (v * v) = v * v * v * v * v * v := ⟨by ac_rfl, by ac_rfl⟩
theorem pw_bd {v : Int} (h : 2 ≤ v ∧ v ≤ 5) : (4 ≤ v * v ∧ v * v ≤ 25) ∧ (8 ≤ v * v * v ∧ v * v * v ≤ 125) ∧ (16 ≤ v * v * v * v ∧ v * v * v * v ≤ 625) ∧ (32 ≤ v * v * v * v * v ∧ v * v * v * v * v ≤ 3125) ∧ (64 ≤ v * v * v * v * v * v ∧ v * v * v * v * v * v ≤ 15625) := by
  rcases (by omega : v = 2 ∨ v = 3 ∨ v = 4 ∨ v = 5) with rfl | rfl | rfl | rfl <;> decide
set_option maxHeartbeats 1000000 in
theorem c_tlApply1 (A B v : Int) (hC : curveB A B = true) (hv : 2 ≤ v ∧ v ≤ 5) (w : World) :
    Calls Tryz.prog 99 #[.agg #[.int .i64 A, .int .i64 B], .agg #[.int .i64 1, .int .i64 v]] w fun e w' => e = .returned (.tuple #[.agg #[.int .i64 (rs (dvB A B v) (A / (v * v * v * v))), .int .i64 (rs (dvB A B v) (B / (v * v * v * v * v * v)))], .bool (dvB A B v)]) ∧ Below w.heap.size w w' := by
  have hb := curveB_of hC
  obtain ⟨p2, _, p4, _, p6⟩ := pw_bd hv
  obtain ⟨e4, e6⟩ := pw_eq v
  rw [← e4] at p4
  rw [← e6] at p6
  have Hu := Lib.hid (dvB_c (A := A) (B := B) (v := v))
  have z4 : (v * v * (v * v) == 0) = false := by simp; omega
  have z6 : (v * v * (v * v) * (v * v) == 0) = false := by simp; omega
  have E4 := Lib.hid e4
  have E6 := Lib.hid e6
  rw [← e6, ← e4] at Hu
  clear e4 e6
  cases h1 : (A.tmod (v * v * (v * v)) == 0)
  · rw [h1] at Hu
    rw [Hu.out]
    have h1' : (A.tmod (v * v * (v * v)) != 0) = true := by unfold bne; rw [h1]; rfl
    go_enter Tryz.func99, Tryz.ntmps99
    go_wp2
    refine bodyPost_ret (v := .tuple #[.agg #[.int .i64 0, .int .i64 0], .bool false]) (by simp [results, Tryz.results99, go_sem]) rfl ⟨rfl, ?_⟩
    (repeat' (first | (with_reducible exact Below.refl _ _) | (with_reducible refine below_step (by assumption) ?_ ?_) | (with_reducible refine Below.alloc ?_ ?_ _) | (with_reducible refine Below.setCell ?_ ?_ _) | (with_reducible refine below_drewN ?_ _) | (with_reducible refine Below.drew ?_) | omega | (simp; omega) | (simp; done)))
  · have h1' : (A.tmod (v * v * (v * v)) != 0) = false := by unfold bne; rw [h1]; rfl
    cases h2 : (B.tmod (v * v * (v * v) * (v * v)) == 0)
    · rw [h1, h2] at Hu
      rw [Hu.out]
      have h2' : (B.tmod (v * v * (v * v) * (v * v)) != 0) = true := by unfold bne; rw [h2]; rfl
      go_enter Tryz.func99, Tryz.ntmps99
      go_wp2
      refine bodyPost_ret (v := .tuple #[.agg #[.int .i64 0, .int .i64 0], .bool false]) (by simp [results, Tryz.results99, go_sem]) rfl ⟨rfl, ?_⟩
      (repeat' (first | (with_reducible exact Below.refl _ _) | (with_reducible refine below_step (by assumption) ?_ ?_) | (with_reducible refine Below.alloc ?_ ?_ _) | (with_reducible refine Below.setCell ?_ ?_ _) | (with_reducible refine below_drewN ?_ _) | (with_reducible refine Below.drew ?_) | omega | (simp; omega) | (simp; done)))
    · have h2' : (B.tmod (v * v * (v * v) * (v * v)) != 0) = false := by unfold bne; rw [h2]; rfl
      have hA0 : A % (v * v * (v * v)) = 0 := by rw [tmod_beq] at h1; simpa using h1
      have hB0 : B % (v * v * (v * v) * (v * v)) = 0 := by rw [tmod_beq] at h2; simpa using h2
      have eA := Lib.hid (tdiv_eq hA0)
      have eB := Lib.hid (tdiv_eq hB0)
      have dA := divn_in (by omega) hb.1 hA0
      have dB := divn_in (by omega) hb.2 hB0
      rw [← eA.out] at dA
      rw [← eB.out] at dB
      rw [h1, h2] at Hu
      rw [Hu.out]
      clear hA0 hB0
      obtain ⟨q1, q2, q3, q4, q5, q6, q7, q8, q9, q10⟩ := S9.new3 w (.int .i64 A) (.int .i64 B) (.int .i64 1) (.int .i64 v) (.int .i64 0) (.int .i64 0) 33 33 44
      rw [← E6.out, ← E4.out, ← eA.out, ← eB.out]
      go_enter Tryz.func99, Tryz.ntmps99
      go_wp2
      generalize (((w.alloc (.cells #[.int .i64 A, .int .i64 B] 33)).alloc (.cells #[.int .i64 1, .int .i64 v] 44)).alloc (.cells #[.int .i64 0, .int .i64 0] 33)) = W at *
      go_region
      all_goals go_wp2
      all_goals
        refine bodyPost_ret (v := .tuple #[.agg #[.int .i64 (A.tdiv (v * v * (v * v))), .int .i64 (B.tdiv (v * v * (v * v) * (v * v)))], .bool true]) (by simp [results, Tryz.results99, go_sem, q3, q4]) rfl ⟨rfl, ?_⟩
        (repeat' (first | (with_reducible exact Below.refl _ _) | (with_reducible refine below_step (by assumption) ?_ ?_) | (with_reducible refine Below.alloc ?_ ?_ _) | (with_reducible refine Below.setCell ?_ ?_ _) | (with_reducible refine below_drewN ?_ _) | (with_reducible refine Below.drew ?_) | omega | (simp; omega) | (simp; done)))
theorem c_tlApply (k A B v : Int) (hC : curveB A B = true) (hS : stepB k v = true) (w : World) :
    Calls Tryz.prog 99 #[.agg #[.int .i64 A, .int .i64 B], .agg #[.int .i64 k, .int .i64 v]] w fun e w' => e = .returned (.tuple #[.agg #[.int .i64 (rs (apOk k A B v) (apA k A v)), .int .i64 (rs (apOk k A B v) (apB k B v))], .bool (apOk k A B v)]) ∧ Below w.heap.size w w' := by
  have hb := curveB_of hC
  rcases stepB_cases hS with ⟨rfl, h⟩ | ⟨rfl, h⟩ | ⟨rfl, h, _⟩ | ⟨rfl, h, _⟩
  · have hr := inB_true h
    have hi := inB_of (x := v) (a := 1) (b := 5) (by omega) (by omega)
    show Calls Tryz.prog 99 _ w fun e w' => e = .returned (.tuple #[.agg #[.int .i64 (rs (curveB (A * v * v * v * v) (B * v * v * v * v * v * v)) (A * v * v * v * v)), .int .i64 (rs (curveB (A * v * v * v * v) (B * v * v * v * v * v * v)) (B * v * v * v * v * v * v))], .bool (curveB (A * v * v * v * v) (B * v * v * v * v * v * v))]) ∧ Below w.heap.size w w'
    go_enter Tryz.func99, Tryz.ntmps99
    go_wp2_with fail
    (go_at_call 44; refine (c_sScale _ _ _ hC hi _).mono ?_; rintro e w1 ⟨rfl, hb1⟩; obtain ⟨hc1, hf1⟩ := bcell hb1; have hz1 := hb1.size; (try simp only [World.size_alloc] at hz1); (try (have hy1 : w.heap.size < w1.heap.size := by omega)); (try (have hx1 := Nat.lt_of_succ_le hz1)); (try (have hv1 := Nat.lt_of_succ_le (Nat.le_of_lt hx1))))
    go_wp2
    obtain ⟨_, _, q3, q4, _⟩ := (S9.new3 w (.int .i64 A) (.int .i64 B) (.int .i64 0) (.int .i64 v) (.int .i64 0) (.int .i64 0) 33 33 44).below hb1
    refine bodyPost_ret (v := .tuple #[.agg #[.int .i64 (rs (curveB (A * v * v * v * v) (B * v * v * v * v * v * v)) (A * v * v * v * v)), .int .i64 (rs (curveB (A * v * v * v * v) (B * v * v * v * v * v * v)) (B * v * v * v * v * v * v))], .bool (curveB (A * v * v * v * v) (B * v * v * v * v * v * v))]) (by simp [results, Tryz.results99, go_sem, q3, q4]) rfl ⟨rfl, ?_⟩
    (repeat' (first | (with_reducible exact Below.refl _ _) | (with_reducible refine below_step (by assumption) ?_ ?_) | (with_reducible refine Below.alloc ?_ ?_ _) | (with_reducible refine Below.setCell ?_ ?_ _) | (with_reducible refine below_drewN ?_ _) | (with_reducible refine Below.drew ?_) | omega | (simp; omega) | (simp; done)))
  · exact c_tlApply1 A B v hC (inB_true h) w
  · have ht := twistB_of h
    show Calls Tryz.prog 99 _ w fun e w' => e = .returned (.tuple #[.agg #[.int .i64 (rs (curveB (A * v * v) (B * v * v * v)) (A * v * v)), .int .i64 (rs (curveB (A * v * v) (B * v * v * v)) (B * v * v * v))], .bool (curveB (A * v * v) (B * v * v * v))]) ∧ Below w.heap.size w w'
    go_enter Tryz.func99, Tryz.ntmps99
    go_wp2_with fail
    (go_at_call 113; refine (c_twOf _ _ _ hb.1 hb.2 ht.1 _).mono ?_; rintro e w1 ⟨rfl, hb1⟩; obtain ⟨hc1, hf1⟩ := bcell hb1; have hz1 := hb1.size; (try simp only [World.size_alloc] at hz1); (try (have hy1 : w.heap.size < w1.heap.size := by omega)); (try (have hx1 := Nat.lt_of_succ_le hz1)); (try (have hv1 := Nat.lt_of_succ_le (Nat.le_of_lt hx1))))
    go_wp2
    obtain ⟨_, _, q3, q4, _⟩ := (S9.new3 w (.int .i64 A) (.int .i64 B) (.int .i64 2) (.int .i64 v) (.int .i64 0) (.int .i64 0) 33 33 44).below hb1
    refine bodyPost_ret (v := .tuple #[.agg #[.int .i64 (rs (curveB (A * v * v) (B * v * v * v)) (A * v * v)), .int .i64 (rs (curveB (A * v * v) (B * v * v * v)) (B * v * v * v))], .bool (curveB (A * v * v) (B * v * v * v))]) (by simp [results, Tryz.results99, go_sem, q3, q4]) rfl ⟨rfl, ?_⟩
    (repeat' (first | (with_reducible exact Below.refl _ _) | (with_reducible refine below_step (by assumption) ?_ ?_) | (with_reducible refine Below.alloc ?_ ?_ _) | (with_reducible refine Below.setCell ?_ ?_ _) | (with_reducible refine below_drewN ?_ _) | (with_reducible refine Below.drew ?_) | omega | (simp; omega) | (simp; done)))
  · show Calls Tryz.prog 99 _ w fun e w' => e = .returned (.tuple #[.agg #[.int .i64 (rs (udB A B v) (A / (v * v))), .int .i64 (rs (udB A B v) (B / (v * v * v)))], .bool (udB A B v)]) ∧ Below w.heap.size w w'
    go_enter Tryz.func99, Tryz.ntmps99
    go_wp2_with fail
    (go_at_call 114; refine (c_sUntwist _ _ _ hC h _).mono ?_; rintro e w1 ⟨rfl, hb1⟩; obtain ⟨hc1, hf1⟩ := bcell hb1; have hz1 := hb1.size; (try simp only [World.size_alloc] at hz1); (try (have hy1 : w.heap.size < w1.heap.size := by omega)); (try (have hx1 := Nat.lt_of_succ_le hz1)); (try (have hv1 := Nat.lt_of_succ_le (Nat.le_of_lt hx1))))
    go_wp2
    obtain ⟨_, _, q3, q4, _⟩ := (S9.new3 w (.int .i64 A) (.int .i64 B) (.int .i64 3) (.int .i64 v) (.int .i64 0) (.int .i64 0) 33 33 44).below hb1
    refine bodyPost_ret (v := .tuple #[.agg #[.int .i64 (rs (udB A B v) (A / (v * v))), .int .i64 (rs (udB A B v) (B / (v * v * v)))], .bool (udB A B v)]) (by simp [results, Tryz.results99, go_sem, q3, q4]) rfl ⟨rfl, ?_⟩
    (repeat' (first | (with_reducible exact Below.refl _ _) | (with_reducible refine below_step (by assumption) ?_ ?_) | (with_reducible refine Below.alloc ?_ ?_ _) | (with_reducible refine Below.setCell ?_ ?_ _) | (with_reducible refine below_drewN ?_ _) | (with_reducible refine Below.drew ?_) | omega | (simp; omega) | (simp; done)))
set_option maxHeartbeats 1000000 in
theorem c_applyStep1 (A B v : Int) (hC : curveB A B = true) (hv : 2 ≤ v ∧ v ≤ 5) (w : World) :
    Calls Tryz.prog 77 #[.agg #[.int .i64 A, .int .i64 B], .agg #[.int .i64 1, .int .i64 v]] w fun e w' => e = .returned (.tuple #[.agg #[.int .i64 (rs (dvB A B v) (A / (v * v * v * v))), .int .i64 (rs (dvB A B v) (B / (v * v * v * v * v * v)))], .bool (dvB A B v)]) ∧ Below w.heap.size w w' := by
  have hb := curveB_of hC
  have HC := fun h => Lib.hid (curveB_dv (show v ≠ 0 by omega) hC h)
  obtain ⟨p2, p3, p4, p5, p6⟩ := pw_bd hv
  have Hu := Lib.hid (dvB_c (A := A) (B := B) (v := v))
  have z4 : (v * v * v * v == 0) = false := by simp; omega
  have z6 : (v * v * v * v * v * v == 0) = false := by simp; omega
  have z4n : v * v * v * v ≠ 0 := by omega
  have z6n : v * v * v * v * v * v ≠ 0 := by omega
  have k4 : IntKind.i64.wrap (v * v * v * v) = v * v * v * v := by simp (disch := omega) only [IntWalk.i64_in]
  have k6 : IntKind.i64.wrap (v * v * v * v * v * v) = v * v * v * v * v * v := by simp (disch := omega) only [IntWalk.i64_in]
  cases h1 : (A.tmod (v * v * v * v) == 0)
  · rw [h1] at Hu
    rw [Hu.out]
    have h1' : (A.tmod (v * v * v * v) != 0) = true := by unfold bne; rw [h1]; rfl
    go_enter Tryz.func77, Tryz.ntmps77
    go_wp2
    refine bodyPost_ret (v := .tuple #[.agg #[.int .i64 0, .int .i64 0], .bool false]) (by simp [results, Tryz.results77, go_sem]) rfl ⟨rfl, ?_⟩
    (repeat' (first | (with_reducible exact Below.refl _ _) | (with_reducible refine below_step (by assumption) ?_ ?_) | (with_reducible refine Below.alloc ?_ ?_ _) | (with_reducible refine Below.setCell ?_ ?_ _) | (with_reducible refine below_drewN ?_ _) | (with_reducible refine Below.drew ?_) | omega | (simp; omega) | (simp; done)))
  · have h1' : (A.tmod (v * v * v * v) != 0) = false := by unfold bne; rw [h1]; rfl
    cases h2 : (B.tmod (v * v * v * v * v * v) == 0)
    · rw [h1, h2] at Hu
      rw [Hu.out]
      have h2' : (B.tmod (v * v * v * v * v * v) != 0) = true := by unfold bne; rw [h2]; rfl
      go_enter Tryz.func77, Tryz.ntmps77
      go_wp2
      refine bodyPost_ret (v := .tuple #[.agg #[.int .i64 0, .int .i64 0], .bool false]) (by simp [results, Tryz.results77, go_sem]) rfl ⟨rfl, ?_⟩
      (repeat' (first | (with_reducible exact Below.refl _ _) | (with_reducible refine below_step (by assumption) ?_ ?_) | (with_reducible refine Below.alloc ?_ ?_ _) | (with_reducible refine Below.setCell ?_ ?_ _) | (with_reducible refine below_drewN ?_ _) | (with_reducible refine Below.drew ?_) | omega | (simp; omega) | (simp; done)))
    · have h2' : (B.tmod (v * v * v * v * v * v) != 0) = false := by unfold bne; rw [h2]; rfl
      have hA0 : A % (v * v * v * v) = 0 := by rw [tmod_beq] at h1; simpa using h1
      have hB0 : B % (v * v * v * v * v * v) = 0 := by rw [tmod_beq] at h2; simpa using h2
      have eA := Lib.hid (tdiv_eq hA0)
      have eB := Lib.hid (tdiv_eq hB0)
      have dA := divn_in (by omega) hb.1 hA0
      have dB := divn_in (by omega) hb.2 hB0
      rw [h1, h2] at Hu
      have HG := HC Hu.out
      have HG : Hid (curveB (A.tdiv (v * v * v * v)) (B.tdiv (v * v * v * v * v * v)) = true) := by rw [eA.out, eB.out]; exact HG
      rw [← eA.out] at dA
      rw [← eB.out] at dB
      rw [Hu.out]
      clear hA0 hB0 HC
      have hS := S9.new3 w (.int .i64 A) (.int .i64 B) (.int .i64 1) (.int .i64 v) (.int .i64 0) (.int .i64 0) 33 33 44
      rw [← eA.out, ← eB.out]
      go_enter Tryz.func77, Tryz.ntmps77
      go_wp2
      have hS' := hS
      obtain ⟨q1, q2, q3, q4, q5, q6, q7, q8, q9, q10⟩ := hS'
      go_region_held3 (fun w' => w'.cell? ⟨w.heap.size, 0, none⟩ = some (.int .i64 A) ∧ w'.cell? ⟨w.heap.size, 1, none⟩ = some (.int .i64 B) ∧ w'.cell? ⟨w.heap.size + 1 + 1, 0, none⟩ = some (cellOr w' (w.heap.size + 1 + 1) 0) ∧ w'.cell? ⟨w.heap.size + 1 + 1, 1, none⟩ = some (cellOr w' (w.heap.size + 1 + 1) 1) ∧ w'.frozen? ⟨w.heap.size + 1 + 1, 0, none⟩ = false ∧ w'.frozen? ⟨w.heap.size + 1 + 1, 1, none⟩ = false ∧ w.heap.size < w.heap.size + 1 + 1 ∧ w.heap.size + 1 + 1 < w'.heap.size ∧ w.heap.size ≤ w.heap.size ∧ Below w.heap.size w w')
        (first | assumption | (exact S9.drew hS) | (exact S9.drewN (by assumption) _) | (exact S9.drewN (S9.drew hS) _) | (exact S9.set (by assumption) _ _) | (exact S9.below (by assumption) (by assumption)))
        (first
          | (go_at_call 96; refine (c_curveResult _ _ _).mono ?_; rintro e w' ⟨rfl, hb9⟩))
      all_goals go_wp2
      all_goals
        obtain ⟨_, _, q3, q4, _⟩ := (S9.drew hS).below hb9
        (try simp (disch := omega) only [IntWalk.i64_in])
        refine bodyPost_ret (v := .tuple #[.agg #[.int .i64 (A.tdiv (v * v * v * v)), .int .i64 (B.tdiv (v * v * v * v * v * v))], .bool true]) (by simp [results, Tryz.results77, go_sem, q3, q4, HG.out, rs]) rfl ⟨rfl, ?_⟩
        (repeat' (first | (with_reducible exact Below.refl _ _) | (with_reducible refine below_step (by assumption) ?_ ?_) | (with_reducible refine Below.alloc ?_ ?_ _) | (with_reducible refine Below.setCell ?_ ?_ _) | (with_reducible refine below_drewN ?_ _) | (with_reducible refine Below.drew ?_) | omega | (simp; omega) | (simp; done)))
theorem c_applyStep (k A B v : Int) (hC : curveB A B = true) (hS : stepB k v = true) (w : World) :
    Calls Tryz.prog 77 #[.agg #[.int .i64 A, .int .i64 B], .agg #[.int .i64 k, .int .i64 v]] w fun e w' => e = .returned (.tuple #[.agg #[.int .i64 (rs (apOk k A B v) (apA k A v)), .int .i64 (rs (apOk k A B v) (apB k B v))], .bool (apOk k A B v)]) ∧ Below w.heap.size w w' := by
  have hb := curveB_of hC
  rcases stepB_cases hS with ⟨rfl, h⟩ | ⟨rfl, h⟩ | ⟨rfl, h, _⟩ | ⟨rfl, h, _⟩
  · have hr := inB_true h
    have hi := inB_of (x := v) (a := 1) (b := 5) (by omega) (by omega)
    show Calls Tryz.prog 77 _ w fun e w' => e = .returned (.tuple #[.agg #[.int .i64 (rs (curveB (A * v * v * v * v) (B * v * v * v * v * v * v)) (A * v * v * v * v)), .int .i64 (rs (curveB (A * v * v * v * v) (B * v * v * v * v * v * v)) (B * v * v * v * v * v * v))], .bool (curveB (A * v * v * v * v) (B * v * v * v * v * v * v))]) ∧ Below w.heap.size w w'
    go_enter Tryz.func77, Tryz.ntmps77
    go_wp2_with fail
    (go_at_call 95; refine (c_iScale _ _ _ hC hi _).mono ?_; rintro e w1 ⟨rfl, hb1⟩; obtain ⟨hc1, hf1⟩ := bcell hb1; have hz1 := hb1.size; (try simp only [World.size_alloc] at hz1); (try (have hy1 : w.heap.size < w1.heap.size := by omega)); (try (have hx1 := Nat.lt_of_succ_le hz1)); (try (have hv1 := Nat.lt_of_succ_le (Nat.le_of_lt hx1))))
    go_wp2
    obtain ⟨_, _, q3, q4, _⟩ := (S9.new3 w (.int .i64 A) (.int .i64 B) (.int .i64 0) (.int .i64 v) (.int .i64 0) (.int .i64 0) 33 33 44).below hb1
    refine bodyPost_ret (v := .tuple #[.agg #[.int .i64 (rs (curveB (A * v * v * v * v) (B * v * v * v * v * v * v)) (A * v * v * v * v)), .int .i64 (rs (curveB (A * v * v * v * v) (B * v * v * v * v * v * v)) (B * v * v * v * v * v * v))], .bool (curveB (A * v * v * v * v) (B * v * v * v * v * v * v))]) (by simp [results, Tryz.results77, go_sem, q3, q4]) rfl ⟨rfl, ?_⟩
    (repeat' (first | (with_reducible exact Below.refl _ _) | (with_reducible refine below_step (by assumption) ?_ ?_) | (with_reducible refine Below.alloc ?_ ?_ _) | (with_reducible refine Below.setCell ?_ ?_ _) | (with_reducible refine below_drewN ?_ _) | (with_reducible refine Below.drew ?_) | omega | (simp; omega) | (simp; done)))
  · exact c_applyStep1 A B v hC (inB_true h) w
  · have ht := twistB_of h
    show Calls Tryz.prog 77 _ w fun e w' => e = .returned (.tuple #[.agg #[.int .i64 (rs (curveB (A * v * v) (B * v * v * v)) (A * v * v)), .int .i64 (rs (curveB (A * v * v) (B * v * v * v)) (B * v * v * v))], .bool (curveB (A * v * v) (B * v * v * v))]) ∧ Below w.heap.size w w'
    go_enter Tryz.func77, Tryz.ntmps77
    go_wp2_with fail
    (go_at_call 97; refine (c_twist _ _ _ hb.1 hb.2 ht.1 _).mono ?_; rintro e w1 ⟨rfl, hb1⟩; obtain ⟨hc1, hf1⟩ := bcell hb1; have hz1 := hb1.size; (try simp only [World.size_alloc] at hz1); (try (have hy1 : w.heap.size < w1.heap.size := by omega)); (try (have hx1 := Nat.lt_of_succ_le hz1)); (try (have hv1 := Nat.lt_of_succ_le (Nat.le_of_lt hx1))))
    go_wp2
    obtain ⟨_, _, q3, q4, _⟩ := (S9.new3 w (.int .i64 A) (.int .i64 B) (.int .i64 2) (.int .i64 v) (.int .i64 0) (.int .i64 0) 33 33 44).below hb1
    refine bodyPost_ret (v := .tuple #[.agg #[.int .i64 (rs (curveB (A * v * v) (B * v * v * v)) (A * v * v)), .int .i64 (rs (curveB (A * v * v) (B * v * v * v)) (B * v * v * v))], .bool (curveB (A * v * v) (B * v * v * v))]) (by simp [results, Tryz.results77, go_sem, q3, q4]) rfl ⟨rfl, ?_⟩
    (repeat' (first | (with_reducible exact Below.refl _ _) | (with_reducible refine below_step (by assumption) ?_ ?_) | (with_reducible refine Below.alloc ?_ ?_ _) | (with_reducible refine Below.setCell ?_ ?_ _) | (with_reducible refine below_drewN ?_ _) | (with_reducible refine Below.drew ?_) | omega | (simp; omega) | (simp; done)))
  · show Calls Tryz.prog 77 _ w fun e w' => e = .returned (.tuple #[.agg #[.int .i64 (rs (udB A B v) (A / (v * v))), .int .i64 (rs (udB A B v) (B / (v * v * v)))], .bool (udB A B v)]) ∧ Below w.heap.size w w'
    go_enter Tryz.func77, Tryz.ntmps77
    go_wp2_with fail
    (go_at_call 98; refine (c_iUntwist _ _ _ hC h _).mono ?_; rintro e w1 ⟨rfl, hb1⟩; obtain ⟨hc1, hf1⟩ := bcell hb1; have hz1 := hb1.size; (try simp only [World.size_alloc] at hz1); (try (have hy1 : w.heap.size < w1.heap.size := by omega)); (try (have hx1 := Nat.lt_of_succ_le hz1)); (try (have hv1 := Nat.lt_of_succ_le (Nat.le_of_lt hx1))))
    go_wp2
    obtain ⟨_, _, q3, q4, _⟩ := (S9.new3 w (.int .i64 A) (.int .i64 B) (.int .i64 3) (.int .i64 v) (.int .i64 0) (.int .i64 0) 33 33 44).below hb1
    refine bodyPost_ret (v := .tuple #[.agg #[.int .i64 (rs (udB A B v) (A / (v * v))), .int .i64 (rs (udB A B v) (B / (v * v * v)))], .bool (udB A B v)]) (by simp [results, Tryz.results77, go_sem, q3, q4]) rfl ⟨rfl, ?_⟩
    (repeat' (first | (with_reducible exact Below.refl _ _) | (with_reducible refine below_step (by assumption) ?_ ?_) | (with_reducible refine Below.alloc ?_ ?_ _) | (with_reducible refine Below.setCell ?_ ?_ _) | (with_reducible refine below_drewN ?_ _) | (with_reducible refine Below.drew ?_) | omega | (simp; omega) | (simp; done)))
noncomputable def asOk (k A B v : Int) : Bool := curveB A B && stepB k v && apOk k A B v
theorem c_sApplyStep (k A B v : Int) (w : World) :
    Calls Tryz.prog 78 #[.agg #[.int .i64 A, .int .i64 B], .agg #[.int .i64 k, .int .i64 v]] w fun e w' => e = .returned (.tuple #[.agg #[.int .i64 (rs (asOk k A B v) (apA k A v)), .int .i64 (rs (asOk k A B v) (apB k B v))], .bool (asOk k A B v)]) ∧ Below w.heap.size w w' := by
  unfold asOk
  have HS := S9.new3 w (.int .i64 A) (.int .i64 B) (.int .i64 k) (.int .i64 v) (.int .i64 0) (.int .i64 0) 33 33 44
  cases h1 : curveB A B
  · go_enter Tryz.func78, Tryz.ntmps78
    go_wp2_with fail
    (go_at_call 41; refine (c_ecGood _ _ _).mono ?_; rintro e w1 ⟨rfl, hb1⟩; obtain ⟨hc1, hf1⟩ := bcell hb1; have hz1 := hb1.size; (try simp only [World.size_alloc] at hz1); (try (have hy1 : w.heap.size < w1.heap.size := by omega)); (try (have hx1 := Nat.lt_of_succ_le hz1)); (try (have hv1 := Nat.lt_of_succ_le (Nat.le_of_lt hx1))))
    go_wp2
    obtain ⟨_, _, q3, q4, _⟩ := HS.below hb1
    refine bodyPost_ret (v := .tuple #[.agg #[.int .i64 0, .int .i64 0], .bool false]) (by simp [results, Tryz.results78, go_sem, q3, q4]) rfl ⟨rfl, ?_⟩
    (repeat' (first | (with_reducible exact Below.refl _ _) | (with_reducible refine below_step (by assumption) ?_ ?_) | (with_reducible refine Below.alloc ?_ ?_ _) | (with_reducible refine Below.setCell ?_ ?_ _) | (with_reducible refine below_drewN ?_ _) | (with_reducible refine Below.drew ?_) | omega | (simp; omega) | (simp; done)))
  · cases h2 : stepB k v
    · go_enter Tryz.func78, Tryz.ntmps78
      go_wp2_with fail
      (go_at_call 41; refine (c_ecGood _ _ _).mono ?_; rintro e w1 ⟨rfl, hb1⟩; obtain ⟨hc1, hf1⟩ := bcell hb1; have hz1 := hb1.size; (try simp only [World.size_alloc] at hz1); (try (have hy1 : w.heap.size < w1.heap.size := by omega)); (try (have hx1 := Nat.lt_of_succ_le hz1)); (try (have hv1 := Nat.lt_of_succ_le (Nat.le_of_lt hx1))))
      go_wp2_with fail
      (go_at_call 64; refine (c_tlGood _ _ _).mono ?_; rintro e w2 ⟨rfl, hb2⟩; obtain ⟨hc2, hf2⟩ := bcell hb2; have hz2 := hb2.size; (try simp only [World.size_alloc] at hz2); (try (have hy2 : w.heap.size < w2.heap.size := by omega)); (try (have hx2 := Nat.lt_of_succ_le hz2)); (try (have hv2 := Nat.lt_of_succ_le (Nat.le_of_lt hx2))); (try (have hy2_1 : w1.heap.size < w2.heap.size := by omega)))
      go_wp2
      obtain ⟨_, _, q3, q4, _⟩ := (HS.below hb1).below hb2
      refine bodyPost_ret (v := .tuple #[.agg #[.int .i64 0, .int .i64 0], .bool false]) (by simp [results, Tryz.results78, go_sem, q3, q4]) rfl ⟨rfl, ?_⟩
      (repeat' (first | (with_reducible exact Below.refl _ _) | (with_reducible refine below_step (by assumption) ?_ ?_) | (with_reducible refine Below.alloc ?_ ?_ _) | (with_reducible refine Below.setCell ?_ ?_ _) | (with_reducible refine below_drewN ?_ _) | (with_reducible refine Below.drew ?_) | omega | (simp; omega) | (simp; done)))
    · show Calls Tryz.prog 78 _ w fun e w' => e = .returned (.tuple #[.agg #[.int .i64 (rs (apOk k A B v) (apA k A v)), .int .i64 (rs (apOk k A B v) (apB k B v))], .bool (apOk k A B v)]) ∧ Below w.heap.size w w'
      have H := Lib.hid (c_tlApply k A B v h1 h2)
      generalize rs (apOk k A B v) (apA k A v) = X at H ⊢
      generalize rs (apOk k A B v) (apB k B v) = Y at H ⊢
      generalize apOk k A B v = o at H ⊢
      go_enter Tryz.func78, Tryz.ntmps78
      go_wp2_with fail
      (go_at_call 41; refine (c_ecGood _ _ _).mono ?_; rintro e w1 ⟨rfl, hb1⟩; obtain ⟨hc1, hf1⟩ := bcell hb1; have hz1 := hb1.size; (try simp only [World.size_alloc] at hz1); (try (have hy1 : w.heap.size < w1.heap.size := by omega)); (try (have hx1 := Nat.lt_of_succ_le hz1)); (try (have hv1 := Nat.lt_of_succ_le (Nat.le_of_lt hx1))))
      go_wp2_with fail
      (go_at_call 64; refine (c_tlGood _ _ _).mono ?_; rintro e w2 ⟨rfl, hb2⟩; obtain ⟨hc2, hf2⟩ := bcell hb2; have hz2 := hb2.size; (try simp only [World.size_alloc] at hz2); (try (have hy2 : w.heap.size < w2.heap.size := by omega)); (try (have hx2 := Nat.lt_of_succ_le hz2)); (try (have hv2 := Nat.lt_of_succ_le (Nat.le_of_lt hx2))); (try (have hy2_1 : w1.heap.size < w2.heap.size := by omega)))
      go_wp2_with fail
      (go_at_call 99; refine (H.out _).mono ?_; rintro e w3 ⟨rfl, hb3⟩; obtain ⟨hc3, hf3⟩ := bcell hb3; have hz3 := hb3.size; (try simp only [World.size_alloc] at hz3); (try (have hy3 : w.heap.size < w3.heap.size := by omega)); (try (have hx3 := Nat.lt_of_succ_le hz3)); (try (have hv3 := Nat.lt_of_succ_le (Nat.le_of_lt hx3))); (try (have hy3_1 : w1.heap.size < w3.heap.size := by omega)); (try (have hy3_2 : w2.heap.size < w3.heap.size := by omega)))
      obtain ⟨_, _, q3, q4, q5, q6, _⟩ := ((HS.below hb1).below hb2).below hb3
      go_wp2
      refine bodyPost_ret (v := .tuple #[.agg #[.int .i64 X, .int .i64 Y], .bool o]) (by simp [results, Tryz.results78, go_sem, q3, q4]) rfl ⟨rfl, ?_⟩
      (repeat' (first | (with_reducible exact Below.refl _ _) | (with_reducible refine below_step (by assumption) ?_ ?_) | (with_reducible refine Below.alloc ?_ ?_ _) | (with_reducible refine Below.setCell ?_ ?_ _) | (with_reducible refine below_drewN ?_ _) | (with_reducible refine Below.drew ?_) | omega | (simp; omega) | (simp; done)))
end Go.Proofs.YtpnpidepkfnofaaGreatDoor
