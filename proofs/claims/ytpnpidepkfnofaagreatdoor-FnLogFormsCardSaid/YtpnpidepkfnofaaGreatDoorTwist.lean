/- Walks: twist numbers, steps. -/
import Derived.Test.YtpnpidepkfnofaaGreatDoorSqf
namespace Go.Proofs.YtpnpidepkfnofaaGreatDoor
open Go.RowKit

noncomputable def twistB (d : Int) : Bool := inB d (-30) 30 && !(d == 0) && freeB d
noncomputable def stepB (k v : Int) : Bool := if k = 0 ∨ k = 1 then inB v 2 5 else if k = 2 ∨ k = 3 then twistB v && !(v == 1) else false
def maxI (a b : Int) : Int := if b < a then a else b
def signI (a : Int) : Int := if 0 < a then 1 else if a < 0 then -1 else 0
theorem maxI_abs (a : Int) : maxI a (-a) = a.natAbs := by unfold maxI; split <;> omega
theorem c_l1Most (a b : Int) (w : World) :
    Calls Tryz.prog 128 #[.int .i64 a, .int .i64 b] w fun e w' => e = .returned (.int .i64 (maxI a b)) ∧ w = w' := by
  unfold maxI
  by_cases h : b < a
  · rw [if_pos h]
    go_enter Tryz.func128, Tryz.ntmps128
    go_wp2
    go_ret
    exact ⟨rfl, rfl⟩
  · rw [if_neg h]
    go_enter Tryz.func128, Tryz.ntmps128
    go_wp2
    go_ret
    exact ⟨rfl, rfl⟩
theorem c_l1Abs (a : Int) (ha : -4000000000000000000 ≤ a ∧ a ≤ 4000000000000000000) (w : World) :
    Calls Tryz.prog 117 #[.int .i64 a] w fun e w' => e = .returned (.int .i64 a.natAbs) ∧ w = w' := by
  have H := Lib.hid (maxI_abs a)
  go_enter Tryz.func117, Tryz.ntmps117
  go_wp2_with ((go_at_call 128; refine (c_l1Most _ _ _).mono ?_; rintro e w' ⟨rfl, rfl⟩))
  go_ret
  exact ⟨by rw [← H.out]; rfl, rfl⟩
set_option maxHeartbeats 400000 in
theorem c_twFree (d : Int) (h0 : d ≠ 0) (hd : -1000000000000 ≤ d ∧ d ≤ 1000000000000) (w : World) :
    Calls Tryz.prog 101 #[.int .i64 d] w fun e w' => e = .returned (.bool (freeB d)) ∧ w = w' := by
  have Hn := Lib.hid h0
  clear h0
  go_enter Tryz.func101, Tryz.ntmps101
  go_wp2
  go_loop [3] (fun x => ∃ k : Int, x = .int .i64 k ∧ 2 ≤ k ∧ k ≤ 1000001 ∧ Hid (∀ c : Int, 2 ≤ c → c < k → d % (c * c) ≠ 0)) (fun x => (1000001 - intOf x).toNat)
  case atStart => exact ⟨2, rfl, by omega, by omega, fun c _ _ => by omega⟩
  case round =>
    obtain ⟨k, rfl, hk2, hk, H⟩ := hrel
    have hkk : 4 ≤ k * k ∧ k * k ≤ 1000002000001 := ⟨by have := Int.mul_le_mul hk2 hk2 (by omega) (by omega); omega, by have := Int.mul_le_mul hk hk (by omega) (by omega); omega⟩
    by_cases h1 : k * k ≤ d.natAbs
    · have hk' : k ≤ 1000000 := by
        rcases Int.lt_or_le 1000000 k with h' | h'
        · have := Int.mul_le_mul (show (1000001 : Int) ≤ k by omega) (show (1000001 : Int) ≤ k by omega) (by omega) (by omega); omega
        · exact h'
      by_cases h2 : d % (k * k) = 0
      · have hh : (d.tmod (k * k) == 0) = true := by simp [Int.tmod_eq_zero_of_dvd (Int.dvd_of_emod_eq_zero h2)]
        have HF := Lib.hid (freeB_no hk2 h1 h2)
        clear h2
        go_wp2_with ((go_at_call 117; refine (c_l1Abs _ (by omega) _).mono ?_; rintro e w' ⟨rfl, rfl⟩))
        go_ret
        exact ⟨by rw [HF.out]; rfl, rfl⟩
      · have hh : (d.tmod (k * k) == 0) = false := by simpa using tmod_ne h2
        have H2 := Lib.hid h2
        clear h2
        go_wp2_with ((go_at_call 117; refine (c_l1Abs _ (by omega) _).mono ?_; rintro e w' ⟨rfl, rfl⟩))
        go_round
        case rel => exact ⟨k + 1, rfl, by omega, by omega, fun c hc hck => by
          rcases Int.lt_or_le c k with h' | h'
          · exact H.out c hc h'
          · rw [show c = k by omega]; exact H2.out⟩
        case measure => simp [intOf]; omega
    · have HF := Lib.hid (freeB_yes H.out (by omega) hk2)
      go_wp2_with ((go_at_call 117; refine (c_l1Abs _ (by omega) _).mono ?_; rintro e w' ⟨rfl, rfl⟩))
      go_ret
      exact ⟨by rw [HF.out]; rfl, rfl⟩
theorem c_twGood (d : Int) (w : World) :
    Calls Tryz.prog 81 #[.int .i64 d] w fun e w' => e = .returned (.bool (twistB d)) ∧ w = w' := by
  unfold twistB
  cases h1 : inB d (-30) 30
  · go_enter Tryz.func81, Tryz.ntmps81
    go_wp2_with ((go_at_call 55; refine (c_l1In _ _ _ _).mono ?_; rintro e w' ⟨rfl, rfl⟩))
    go_ret
    exact ⟨rfl, rfl⟩
  · have hb := inB_true h1
    cases h2 : (d == 0)
    · have h0 : d ≠ 0 := by simpa using h2
      have H0 := Lib.hid h0
      have h3 : (d != 0) = true := by simpa using h0
      clear h0
      go_enter Tryz.func81, Tryz.ntmps81
      go_wp2_with (first | (go_at_call 55; refine (c_l1In _ _ _ _).mono ?_; rintro e w' ⟨rfl, rfl⟩) | (go_at_call 101; refine (c_twFree _ H0.out (by omega) _).mono ?_; rintro e w' ⟨rfl, rfl⟩))
      go_ret
      exact ⟨rfl, rfl⟩
    · have h3 : (d != 0) = false := by simpa using h2
      go_enter Tryz.func81, Tryz.ntmps81
      go_wp2_with (first | (go_at_call 55; refine (c_l1In _ _ _ _).mono ?_; rintro e w' ⟨rfl, rfl⟩))
      go_ret
      exact ⟨rfl, rfl⟩
theorem c_isTwist (d : Int) (w : World) :
    Calls Tryz.prog 80 #[.int .i64 d] w fun e w' => e = .returned (.bool (twistB d)) ∧ Below w.heap.size w w' := by
  unfold twistB
  cases h2 : (d == 0)
  · have h0 : d ≠ 0 := by simpa using h2
    have H0 := Lib.hid h0
    have h3 : (d != 0) = true := by simpa using h0
    clear h0
    cases h1 : inB d (-30) 30
    · go_enter Tryz.func80, Tryz.ntmps80
      go_wp2_with ((go_at_call 53; refine (c_inside _ _ _ _).mono ?_; rintro e w' ⟨rfl, rfl⟩))
      go_ret
      exact ⟨rfl, Below.refl _ _⟩
    · have hb := inB_true h1
      have HS := Lib.hid (sqf_eq H0.out (show -31 ≤ d by omega) (by omega))
      go_enter Tryz.func80, Tryz.ntmps80
      go_wp2_with (first | (go_at_call 53; refine (c_inside _ _ _ _).mono ?_; rintro e w' ⟨rfl, rfl⟩) | (go_at_call 100; refine (c_squarefree _ H0.out (by omega) _).mono ?_; rintro e w1 ⟨rfl, hb1⟩; obtain ⟨hc1, hf1⟩ := bcell hb1; have hz1 := hb1.size; (try simp only [World.size_alloc] at hz1); (try (have hy1 : w.heap.size < w1.heap.size := by omega)); (try (have hx1 := Nat.lt_of_succ_le hz1)); (try (have hv1 := Nat.lt_of_succ_le (Nat.le_of_lt hx1)))))
      go_ret
      exact ⟨by rw [← HS.out]; rfl, hb1⟩
  · have h3 : (d != 0) = false := by simpa using h2
    go_enter Tryz.func80, Tryz.ntmps80
    go_wp2
    go_ret
    exact ⟨by simp, Below.refl _ _⟩
theorem c_tlGood (k v : Int) (w : World) :
    Calls Tryz.prog 64 #[.agg #[.int .i64 k, .int .i64 v]] w fun e w' => e = .returned (.bool (stepB k v)) ∧ Below w.heap.size w w' := by
  unfold stepB
  have hc : k = 0 ∨ k = 1 ∨ k = 2 ∨ k = 3 ∨ (k ≠ 0 ∧ k ≠ 1 ∧ k ≠ 2 ∧ k ≠ 3) := by omega
  have h3 : (v != 1) = !(v == 1) := rfl
  rcases hc with rfl | rfl | rfl | rfl | ⟨h0, h1, h2, h4⟩
  · go_enter Tryz.func64, Tryz.ntmps64
    go_wp2_with ((go_at_call 55; refine (c_l1In _ _ _ _).mono ?_; rintro e w' ⟨rfl, rfl⟩))
    go_ret
    exact ⟨rfl, (Below.refl _ _).alloc (Nat.le_refl _) _⟩
  · go_enter Tryz.func64, Tryz.ntmps64
    go_wp2_with ((go_at_call 55; refine (c_l1In _ _ _ _).mono ?_; rintro e w' ⟨rfl, rfl⟩))
    go_ret
    exact ⟨rfl, (Below.refl _ _).alloc (Nat.le_refl _) _⟩
  · cases h5 : twistB v
    all_goals
      go_enter Tryz.func64, Tryz.ntmps64
      go_wp2_with ((go_at_call 81; refine (c_twGood _ _).mono ?_; rintro e w' ⟨rfl, rfl⟩))
      go_ret
      exact ⟨rfl, (Below.refl _ _).alloc (Nat.le_refl _) _⟩
  · cases h5 : twistB v
    all_goals
      go_enter Tryz.func64, Tryz.ntmps64
      go_wp2_with ((go_at_call 81; refine (c_twGood _ _).mono ?_; rintro e w' ⟨rfl, rfl⟩))
      go_ret
      exact ⟨rfl, (Below.refl _ _).alloc (Nat.le_refl _) _⟩
  · have e0 : (k == 0) = false := by simpa using h0
    have e1 : (k == 1) = false := by simpa using h1
    have e2 : (k == 2) = false := by simpa using h2
    have e3 : (k == 3) = false := by simpa using h4
    rw [if_neg (by omega), if_neg (by omega)]
    clear h0 h1 h2 h4
    go_enter Tryz.func64, Tryz.ntmps64
    go_wp2
    go_ret
    exact ⟨rfl, (Below.refl _ _).alloc (Nat.le_refl _) _⟩
theorem c_isStep (k v : Int) (w : World) :
    Calls Tryz.prog 63 #[.agg #[.int .i64 k, .int .i64 v]] w fun e w' => e = .returned (.bool (stepB k v)) ∧ Below w.heap.size w w' := by
  unfold stepB
  have hc : k = 0 ∨ k = 1 ∨ k = 2 ∨ k = 3 ∨ (k ≠ 0 ∧ k ≠ 1 ∧ k ≠ 2 ∧ k ≠ 3) := by omega
  have h3 : (v != 1) = !(v == 1) := rfl
  rcases hc with rfl | rfl | rfl | rfl | ⟨h0, h1, h2, h4⟩
  · go_enter Tryz.func63, Tryz.ntmps63
    go_wp2_with ((go_at_call 53; refine (c_inside _ _ _ _).mono ?_; rintro e w' ⟨rfl, rfl⟩))
    go_ret
    exact ⟨rfl, (Below.refl _ _).alloc (Nat.le_refl _) _⟩
  · go_enter Tryz.func63, Tryz.ntmps63
    go_wp2_with ((go_at_call 53; refine (c_inside _ _ _ _).mono ?_; rintro e w' ⟨rfl, rfl⟩))
    go_ret
    exact ⟨rfl, (Below.refl _ _).alloc (Nat.le_refl _) _⟩
  · cases h5 : twistB v
    all_goals
      go_enter Tryz.func63, Tryz.ntmps63
      go_wp2_with ((go_at_call 80; refine (c_isTwist _ _).mono ?_; rintro e w1 ⟨rfl, hb1⟩; obtain ⟨hc1, hf1⟩ := bcell hb1; have hz1 := hb1.size; (try simp only [World.size_alloc] at hz1); (try (have hy1 : w.heap.size < w1.heap.size := by omega)); (try (have hx1 := Nat.lt_of_succ_le hz1)); (try (have hv1 := Nat.lt_of_succ_le (Nat.le_of_lt hx1)))))
      go_ret
      exact ⟨rfl, below_step hb1 (by simp) ((Below.refl _ _).alloc (Nat.le_refl _) _)⟩
  · cases h5 : twistB v
    all_goals
      go_enter Tryz.func63, Tryz.ntmps63
      go_wp2_with ((go_at_call 80; refine (c_isTwist _ _).mono ?_; rintro e w1 ⟨rfl, hb1⟩; obtain ⟨hc1, hf1⟩ := bcell hb1; have hz1 := hb1.size; (try simp only [World.size_alloc] at hz1); (try (have hy1 : w.heap.size < w1.heap.size := by omega)); (try (have hx1 := Nat.lt_of_succ_le hz1)); (try (have hv1 := Nat.lt_of_succ_le (Nat.le_of_lt hx1)))))
      go_ret
      exact ⟨rfl, below_step hb1 (by simp) ((Below.refl _ _).alloc (Nat.le_refl _) _)⟩
  · have e0 : (k == 0) = false := by simpa using h0
    have e1 : (k == 1) = false := by simpa using h1
    have e2 : (k == 2) = false := by simpa using h2
    have e3 : (k == 3) = false := by simpa using h4
    rw [if_neg (by omega), if_neg (by omega)]
    clear h0 h1 h2 h4
    go_enter Tryz.func63, Tryz.ntmps63
    go_wp2
    go_ret
    exact ⟨rfl, (Below.refl _ _).alloc (Nat.le_refl _) _⟩
theorem c_sIsStep (k v : Int) (w : World) :
    Calls Tryz.prog 26 #[.agg #[.int .i64 k, .int .i64 v]] w fun e w' => e = .returned (.bool (stepB k v)) ∧ Below w.heap.size w w' := by
  go_enter Tryz.func26, Tryz.ntmps26
  go_wp2_with ((go_at_call 64; refine (c_tlGood _ _ _).mono ?_; rintro e w1 ⟨rfl, hb1⟩; obtain ⟨hc1, hf1⟩ := bcell hb1; have hz1 := hb1.size; (try simp only [World.size_alloc] at hz1); (try (have hy1 : w.heap.size < w1.heap.size := by omega)); (try (have hx1 := Nat.lt_of_succ_le hz1)); (try (have hv1 := Nat.lt_of_succ_le (Nat.le_of_lt hx1)))))
  go_ret
  exact ⟨rfl, below_step hb1 (by simp) ((Below.refl _ _).alloc (Nat.le_refl _) _)⟩
theorem c_iIsStep (k v : Int) (w : World) :
    Calls Tryz.prog 25 #[.agg #[.int .i64 k, .int .i64 v]] w fun e w' => e = .returned (.bool (stepB k v)) ∧ Below w.heap.size w w' := by
  go_enter Tryz.func25, Tryz.ntmps25
  go_wp2_with ((go_at_call 63; refine (c_isStep _ _ _).mono ?_; rintro e w1 ⟨rfl, hb1⟩; obtain ⟨hc1, hf1⟩ := bcell hb1; have hz1 := hb1.size; (try simp only [World.size_alloc] at hz1); (try (have hy1 : w.heap.size < w1.heap.size := by omega)); (try (have hx1 := Nat.lt_of_succ_le hz1)); (try (have hv1 := Nat.lt_of_succ_le (Nat.le_of_lt hx1)))))
  go_ret
  exact ⟨rfl, below_step hb1 (by simp) ((Below.refl _ _).alloc (Nat.le_refl _) _)⟩
end Go.Proofs.YtpnpidepkfnofaaGreatDoor
