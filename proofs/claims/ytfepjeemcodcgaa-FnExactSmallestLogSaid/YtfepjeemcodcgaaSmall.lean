/- Walks: smallest models. -/
import Derived.Test.YtfepjeemcodcgaaTwm
import Derived.Test.YtfepjeemcodcgaaSmallPlain
namespace Go.Proofs.Ytfepjeemcodcgaa
open Go.RowKit

theorem pow_bds {u : Int} (h : 1 ≤ u) (h1 : u ≤ 10) : (1 ≤ u * u ∧ u * u ≤ 100) ∧ (1 ≤ u * u * u ∧ u * u * u ≤ 1000) ∧ (1 ≤ u * u * u * u ∧ u * u * u * u ≤ 10000) ∧ (1 ≤ u * u * u * u * u ∧ u * u * u * u * u ≤ 100000) ∧ (1 ≤ u * u * u * u * u * u ∧ u * u * u * u * u * u ≤ 1000000) := by
  rcases (by omega : u = 1 ∨ u = 2 ∨ u = 3 ∨ u = 4 ∨ u = 5 ∨ u = 6 ∨ u = 7 ∨ u = 8 ∨ u = 9 ∨ u = 10) with rfl | rfl | rfl | rfl | rfl | rfl | rfl | rfl | rfl | rfl <;> decide
theorem disc_ne {A B : Int} (h : curveB A B = true) : A ≠ 0 ∨ B ≠ 0 := by
  rcases Decidable.em (A = 0) with rfl | hA
  · right; rintro rfl
    revert h; decide
  · exact .inl hA
theorem q_bd {A m : Int} (hA : -10000 ≤ A ∧ A ≤ 10000) (_hm : 1 ≤ m) : -10000 ≤ A.tdiv m ∧ A.tdiv m ≤ 10000 := by
  have h := Int.natAbs_tdiv_le_natAbs A m
  omega
set_option maxHeartbeats 1000000 in
theorem c_smallest (A B : Int) (hc : curveB A B = true) (w : World) :
    Calls Try.prog 70 #[.agg #[.int .i64 A, .int .i64 B]] w fun e w' => e = .returned (.tuple #[.agg #[.int .i64 (sm4 A (smU A B)), .int .i64 (sm6 B (smU A B))], .int .i64 (smU A B)]) ∧ Below w.heap.size w w' := by
  obtain ⟨hA, hB⟩ := (by unfold curveB at hc; simp at hc; exact ⟨inB_true hc.1.1, inB_true hc.1.2⟩ : (-1000 ≤ A ∧ A ≤ 1000) ∧ (-10000 ≤ B ∧ B ≤ 10000))
  have HM := Lib.hid (fun u => @smU_max A B u hA hB (disc_ne hc))
  have hsm := smU_bd A B
  have HD : Hid (dvB A B (smU A B) = true) := bestF_dv A B 4
  clear hc
  go_enter Try.func70, Try.ntmps70
  go_wp2
  go_loop [4] (fun x => ∃ u : Int, x = .int .i64 u ∧ smU A B ≤ u ∧ u ≤ 10) (fun x => (intOf x).toNat)
  case atStart => exact ⟨10, rfl, by omega, by omega⟩
  case round =>
    obtain ⟨u, rfl, hu, hu10⟩ := hrel
    obtain ⟨p2, p3, p4, p5, p6⟩ := pow_bds (show 1 ≤ u by omega) hu10
    by_cases he : smU A B < u
    · have hd := HM.out u he hu10
      unfold dvB at hd
      cases ht : (A % (u * u * u * u) == 0)
      · have h1 : (A.tmod (u * u * u * u) == 0) = false := by rw [tmod_beq]; exact ht
        clear hd ht
        go_wp2
        go_round
        case rel => exact ⟨u - 1, rfl, by omega, by omega⟩
        case measure => simp [intOf]; omega
      · have h1 : (A.tmod (u * u * u * u) == 0) = true := by rw [tmod_beq]; exact ht
        have h2 : (B.tmod (u * u * u * u * u * u) == 0) = false := by rw [tmod_beq]; rw [ht] at hd; simpa using hd
        clear hd ht
        go_wp2
        go_round
        case rel => exact ⟨u - 1, rfl, by omega, by omega⟩
        case measure => simp [intOf]; omega
    · obtain rfl : u = smU A B := by omega
      have hd := HD.out
      unfold dvB at hd
      simp only [Bool.and_eq_true] at hd
      have h1 : (A.tmod (smU A B * smU A B * smU A B * smU A B) == 0) = true := by rw [tmod_beq]; exact hd.1
      have h2 : (B.tmod (smU A B * smU A B * smU A B * smU A B * smU A B * smU A B) == 0) = true := by rw [tmod_beq]; exact hd.2
      have E1 := Lib.hid (tdiv_eq (by simpa using hd.1))
      have E2 := Lib.hid (tdiv_eq (by simpa using hd.2))
      have b1 := q_bd (A := A) (m := smU A B * smU A B * smU A B * smU A B) (by omega) (by omega)
      have b2 := q_bd (A := B) (m := smU A B * smU A B * smU A B * smU A B * smU A B * smU A B) (by omega) (by omega)
      clear hd HM HD he hu hu10
      go_wp2
      go_region
      all_goals go_wp2
      all_goals
        rw [E1.out, E2.out]
        refine bodyPost_ret (v := .tuple #[.agg #[.int .i64 (A / (smU A B * smU A B * smU A B * smU A B)), .int .i64 (B / (smU A B * smU A B * smU A B * smU A B * smU A B * smU A B))], .int .i64 (smU A B)]) (by simp [results, Try.results70, go_sem]) rfl ⟨rfl, ?_⟩
        (repeat' (first | (with_reducible exact Below.refl _ _) | (with_reducible refine below_step (by assumption) ?_ ?_) | (with_reducible refine Below.alloc ?_ ?_ _) | (with_reducible refine Below.setCell ?_ ?_ _) | (with_reducible refine below_drewN ?_ _) | (with_reducible refine Below.drew ?_) | omega | (simp; omega) | (simp; done)))
theorem sq4 (b : Int) : b * b * (b * b) = b * b * b * b := by simp only [Int.mul_assoc]
theorem sq6 (b : Int) : b * b * (b * b) * (b * b) = b * b * b * b * b * b := by simp only [Int.mul_assoc]
set_option maxHeartbeats 1000000 in
theorem c_ecSmallest (A B : Int) (hc : curveB A B = true) (w : World) :
    Calls Try.prog 67 #[.agg #[.int .i64 A, .int .i64 B]] w fun e w' => e = .returned (.tuple #[.agg #[.int .i64 (sm4 A (smU A B)), .int .i64 (sm6 B (smU A B))], .int .i64 (smU A B)]) ∧ Below w.heap.size w w' := by
  obtain ⟨hA, hB⟩ := (by unfold curveB at hc; simp at hc; exact ⟨inB_true hc.1.1, inB_true hc.1.2⟩ : (-1000 ≤ A ∧ A ≤ 1000) ∧ (-10000 ≤ B ∧ B ≤ 10000))
  have hsm := smU_bd A B
  have HD : Hid (dvB A B (smU A B) = true) := bestF_dv A B 4
  clear hc
  go_enter Try.func67, Try.ntmps67
  go_wp2
  go_loop [4, 5] (fun b x => ∃ k : Nat, k ≤ 4 ∧ b = .int .i64 (bestF A B k) ∧ x = .int .i64 ((k : Int) + 2)) (fun _ x => (6 - intOf x).toNat)
  case atStart => exact ⟨0, by omega, rfl, rfl⟩
  case round =>
    obtain ⟨k, hk, rfl, rfl⟩ := hrel
    by_cases hlt : k < 4
    · obtain ⟨u, hu⟩ : ∃ u : Int, u = (k : Int) + 2 := ⟨_, rfl⟩
      obtain ⟨p2, p3, p4, p5, p6⟩ := pow_bds (u := (k : Int) + 2) (by omega) (by omega)
      have HB : Hid (bestF A B (k + 1) = if dvB A B ((k : Int) + 2) = true then (k : Int) + 2 else bestF A B k) := rfl
      cases ht : (A % (((k : Int) + 2) * ((k : Int) + 2) * ((k : Int) + 2) * ((k : Int) + 2)) == 0)
      · have hd : dvB A B ((k : Int) + 2) = false := by unfold dvB; rw [ht]; rfl
        have h1 : (A.tmod (((k : Int) + 2) * ((k : Int) + 2) * ((k : Int) + 2) * ((k : Int) + 2)) == 0) = false := by rw [tmod_beq]; exact ht
        have HC : Hid (bestF A B (k + 1) = bestF A B k) := by show _ = _; rw [HB.out, hd]; rfl
        clear ht hd hu
        go_wp2
        go_round
        case rel => exact ⟨k + 1, by omega, by rw [HC.out], by go_num⟩
        case measure => simp [intOf]; omega
      · have h1 : (A.tmod (((k : Int) + 2) * ((k : Int) + 2) * ((k : Int) + 2) * ((k : Int) + 2)) == 0) = true := by rw [tmod_beq]; exact ht
        cases hs : (B % (((k : Int) + 2) * ((k : Int) + 2) * ((k : Int) + 2) * ((k : Int) + 2) * ((k : Int) + 2) * ((k : Int) + 2)) == 0)
        · have hd : dvB A B ((k : Int) + 2) = false := by unfold dvB; rw [ht, hs]; rfl
          have h2 : (B.tmod (((k : Int) + 2) * ((k : Int) + 2) * ((k : Int) + 2) * ((k : Int) + 2) * ((k : Int) + 2) * ((k : Int) + 2)) == 0) = false := by rw [tmod_beq]; exact hs
          have HC : Hid (bestF A B (k + 1) = bestF A B k) := by show _ = _; rw [HB.out, hd]; rfl
          clear ht hs hd hu
          go_wp2
          go_round
          case rel => exact ⟨k + 1, by omega, by rw [HC.out], by go_num⟩
          case measure => simp [intOf]; omega
        · have hd : dvB A B ((k : Int) + 2) = true := by unfold dvB; rw [ht, hs]; rfl
          have h2 : (B.tmod (((k : Int) + 2) * ((k : Int) + 2) * ((k : Int) + 2) * ((k : Int) + 2) * ((k : Int) + 2) * ((k : Int) + 2)) == 0) = true := by rw [tmod_beq]; exact hs
          have HC : Hid (bestF A B (k + 1) = (k : Int) + 2) := by show _ = _; rw [HB.out, hd]; rfl
          clear ht hs hd hu
          go_wp2
          go_round
          case rel => exact ⟨k + 1, by omega, by rw [HC.out], by go_num⟩
          case measure => simp [intOf]; omega
    · obtain rfl : k = 4 := by omega
      have hd := HD.out
      unfold dvB at hd
      simp only [Bool.and_eq_true] at hd
      obtain ⟨p2, p3, p4, p5, p6⟩ := pow_bds (u := smU A B) (by omega) (by omega)
      have E1 : Hid (A.tdiv (smU A B * smU A B * (smU A B * smU A B)) = sm4 A (smU A B)) := by show _ = _; rw [sq4]; exact tdiv_eq (by simpa using hd.1)
      have E2 : Hid (B.tdiv (smU A B * smU A B * (smU A B * smU A B) * (smU A B * smU A B)) = sm6 B (smU A B)) := by show _ = _; rw [sq6]; exact tdiv_eq (by simpa using hd.2)
      have s4 := sq4 (smU A B)
      have s6 := sq6 (smU A B)
      have c1 : 1 ≤ smU A B * smU A B * (smU A B * smU A B) ∧ smU A B * smU A B * (smU A B * smU A B) ≤ 10000 := by rw [s4]; exact p4
      have c2 : 1 ≤ smU A B * smU A B * (smU A B * smU A B) * (smU A B * smU A B) ∧ smU A B * smU A B * (smU A B * smU A B) * (smU A B * smU A B) ≤ 1000000 := by rw [s6]; exact p6
      have b1 := q_bd (A := A) (m := smU A B * smU A B * (smU A B * smU A B)) (by omega) (by omega)
      have b2 := q_bd (A := B) (m := smU A B * smU A B * (smU A B * smU A B) * (smU A B * smU A B)) (by omega) (by omega)
      clear hd HD s4 s6
      have hf : bestF A B 4 = smU A B := rfl
      rw [hf]
      clear hf
      generalize hz : sm4 A (smU A B) = z4 at *
      generalize hz6 : sm6 B (smU A B) = z6 at *
      generalize hu : smU A B = u at *
      have HZ := Lib.hid hz
      have HZ6 := Lib.hid hz6
      have HU := Lib.hid hu
      clear hz hz6 hu
      go_wp2
      go_region
      all_goals go_wp2
      all_goals
        rw [E1.out, E2.out]
        refine bodyPost_ret (v := .tuple #[.agg #[.int .i64 z4, .int .i64 z6], .int .i64 u]) (by simp [results, Try.results67, go_sem]) rfl ⟨by rw [HU.out, HZ.out, HZ6.out], ?_⟩
        (repeat' (first | (with_reducible exact Below.refl _ _) | (with_reducible refine below_step (by assumption) ?_ ?_) | (with_reducible refine Below.alloc ?_ ?_ _) | (with_reducible refine Below.setCell ?_ ?_ _) | (with_reducible refine below_drewN ?_ _) | (with_reducible refine Below.drew ?_) | omega | (simp; omega) | (simp; done)))
end Go.Proofs.Ytfepjeemcodcgaa
