/- The walk of the law FnDivisionRoots. -/
import Derived.Test.YtmlfkceafkhlaaaDrp
import Derived.Test.YtmlfkceafkhlaaaDrD
namespace Go.Proofs.Ytmlfkceafkhlaaa
open Go.RowKit

theorem c_iDegree (n : Int) (w : World) : Calls Try.prog 12 #[.int .i64 n] w fun e w' => e = .returned (.tuple #[.int .i64 (degV n), .bool (inB n 1 40)]) ∧ w' = w := by
  unfold degV rsZ
  cases h : inB n 1 40
  · go_enter Try.func12, Try.ntmps12
    go_wp2_with ((go_at_call 30; refine (c_inside _ _ _ _).mono ?_; rintro e w' ⟨rfl, rfl⟩))
    go_ret2
    exact ⟨rfl, rfl⟩
  · have hb := inB_true h
    have hn : 1 ≤ n * n ∧ n * n ≤ 1600 := ⟨by have := Int.mul_le_mul hb.1 hb.1 (by omega) (by omega); omega, by have := Int.mul_le_mul hb.2 hb.2 (by omega) (by omega); omega⟩
    by_cases h3 : n % 2 = 1
    · have hb : (n % 2 == 1) = true := by simp [h3]
      rw [if_pos rfl, if_pos h3]
      clear h3
      go_enter Try.func12, Try.ntmps12
      go_wp2_with ((go_at_call 30; refine (c_inside _ _ _ _).mono ?_; rintro e w' ⟨rfl, rfl⟩))
      go_ret2
      exact ⟨rfl, rfl⟩
    · have h2 : 2 ≤ n := by omega
      have h4 : 4 ≤ n * n := by have := Int.mul_le_mul h2 h2 (by omega) (by omega); omega
      have hb : (n % 2 == 1) = false := by simp [h3]
      rw [if_pos rfl, if_neg h3]
      clear h3
      go_enter Try.func12, Try.ntmps12
      go_wp2_with ((go_at_call 30; refine (c_inside _ _ _ _).mono ?_; rintro e w' ⟨rfl, rfl⟩))
      go_ret2
      exact ⟨rfl, rfl⟩
theorem c_sDegree (n : Int) (w : World) : Calls Try.prog 13 #[.int .i64 n] w fun e w' => e = .returned (.tuple #[.int .i64 (degV n), .bool (inB n 1 40)]) ∧ w' = w := by
  unfold degV rsZ
  cases h : inB n 1 40
  · go_enter Try.func13, Try.ntmps13
    go_wp2_with ((go_at_call 36; refine (c_dpNumber _ _).mono ?_; rintro e w' ⟨rfl, rfl⟩))
    go_ret2
    exact ⟨rfl, rfl⟩
  · have hb := inB_true h
    have hn : 1 ≤ n * n ∧ n * n ≤ 1600 := ⟨by have := Int.mul_le_mul hb.1 hb.1 (by omega) (by omega); omega, by have := Int.mul_le_mul hb.2 hb.2 (by omega) (by omega); omega⟩
    by_cases h3 : n % 2 = 1
    · have hb : (n % 2 == 1) = true := by simp [h3]
      rw [if_pos rfl, if_pos h3]
      clear h3
      go_enter Try.func13, Try.ntmps13
      go_wp2_with ((go_at_call 36; refine (c_dpNumber _ _).mono ?_; rintro e w' ⟨rfl, rfl⟩))
      go_ret2
      exact ⟨rfl, rfl⟩
    · have h2 : 2 ≤ n := by omega
      have h4 : 4 ≤ n * n := by have := Int.mul_le_mul h2 h2 (by omega) (by omega); omega
      have hb : (n % 2 == 1) = false := by simp [h3]
      rw [if_pos rfl, if_neg h3]
      clear h3
      go_enter Try.func13, Try.ntmps13
      go_wp2_with ((go_at_call 36; refine (c_dpNumber _ _).mono ?_; rintro e w' ⟨rfl, rfl⟩))
      go_ret2
      exact ⟨rfl, rfl⟩
theorem c_iLeading (n : Int) (w : World) : Calls Try.prog 14 #[.int .i64 n] w fun e w' => e = .returned (.tuple #[.int .i64 (ledV n), .bool (inB n 1 40)]) ∧ w' = w := by
  unfold ledV rsZ
  cases h : inB n 1 40
  · go_enter Try.func14, Try.ntmps14
    go_wp2_with ((go_at_call 30; refine (c_inside _ _ _ _).mono ?_; rintro e w' ⟨rfl, rfl⟩))
    go_ret2
    exact ⟨rfl, rfl⟩
  · have hb := inB_true h
    by_cases h3 : n % 2 = 1
    · have hb : (n % 2 == 1) = true := by simp [h3]
      rw [if_pos rfl, if_pos h3]
      clear h3
      go_enter Try.func14, Try.ntmps14
      go_wp2_with ((go_at_call 30; refine (c_inside _ _ _ _).mono ?_; rintro e w' ⟨rfl, rfl⟩))
      go_ret2
      exact ⟨rfl, rfl⟩
    · have hb : (n % 2 == 1) = false := by simp [h3]
      rw [if_pos rfl, if_neg h3]
      clear h3
      go_enter Try.func14, Try.ntmps14
      go_wp2_with ((go_at_call 30; refine (c_inside _ _ _ _).mono ?_; rintro e w' ⟨rfl, rfl⟩))
      go_ret2
      exact ⟨rfl, rfl⟩
theorem c_sLeading (n : Int) (w : World) : Calls Try.prog 15 #[.int .i64 n] w fun e w' => e = .returned (.tuple #[.int .i64 (ledV n), .bool (inB n 1 40)]) ∧ w' = w := by
  unfold ledV rsZ
  cases h : inB n 1 40
  · go_enter Try.func15, Try.ntmps15
    go_wp2_with ((go_at_call 36; refine (c_dpNumber _ _).mono ?_; rintro e w' ⟨rfl, rfl⟩))
    go_ret2
    exact ⟨rfl, rfl⟩
  · have hb := inB_true h
    by_cases h3 : n % 2 = 1
    · have hb : (n % 2 == 1) = true := by simp [h3]
      rw [if_pos rfl, if_pos h3]
      clear h3
      go_enter Try.func15, Try.ntmps15
      go_wp2_with ((go_at_call 36; refine (c_dpNumber _ _).mono ?_; rintro e w' ⟨rfl, rfl⟩))
      go_ret2
      exact ⟨rfl, rfl⟩
    · have hb : (n % 2 == 1) = false := by simp [h3]
      rw [if_pos rfl, if_neg h3]
      clear h3
      go_enter Try.func15, Try.ntmps15
      go_wp2_with ((go_at_call 36; refine (c_dpNumber _ _).mono ?_; rintro e w' ⟨rfl, rfl⟩))
      go_ret2
      exact ⟨rfl, rfl⟩
theorem c_qInts (v v' : Value) (xs : List Int) (hL : xs.length ≤ 100000000) (w : World) (h1 : RdI w v xs) (h2 : RdI w v' xs) :
    Calls Try.prog 18 #[v, v'] w fun e w' => e = .returned (.bool true) ∧ Below w.heap.size w w' := by
  obtain ⟨a, cap, rfl, hform⟩ := h1
  obtain ⟨a', cap', rfl, hform'⟩ := h2
  have HF := Lib.hid hform
  have HF' := Lib.hid hform'
  clear hform hform'
  go_enter Try.func18, Try.ntmps18
  go_wp2
  go_loopw [13] (fun i wr => ∃ k : Nat, k ≤ xs.length ∧ i = .int .i64 k ∧ Below w.heap.size w wr) (fun i _ => xs.length - (intOf i).toNat)
  case atStart => exact ⟨0, Nat.zero_le _, rfl, Below.refl _ _⟩
  case round =>
    obtain ⟨k, hk, rfl, hbl⟩ := hrel
    by_cases hlt : k < xs.length
    · obtain ⟨g, o, rfl, q1, hg⟩ := HF.out k hlt
      obtain ⟨g', o', rfl, r1, hg'⟩ := HF'.out k hlt
      have q2 := (hbl.cell (p := ⟨g, o + k, none⟩) hg).trans q1
      have r2 := (hbl.cell (p := ⟨g', o' + k, none⟩) hg').trans r1
      clear q1 r1
      generalize xs[k]?.getD 0 = y at q2 r2
      have i0 : (0 : Int) ≤ (k : Int) := by omega
      have i1 : (k : Int) < (xs.length : Int) := by omega
      go_wp2
      go_quiet (fail)
      go_wp2
      go_roundw
      case rel => exact ⟨k + 1, by omega, by go_num, below_drewN hbl _⟩
      case measure => simp [intOf]; omega
    · obtain rfl : k = xs.length := by omega
      go_wp2
      go_ret
      exact ⟨rfl, hbl⟩
end Go.Proofs.Ytmlfkceafkhlaaa
