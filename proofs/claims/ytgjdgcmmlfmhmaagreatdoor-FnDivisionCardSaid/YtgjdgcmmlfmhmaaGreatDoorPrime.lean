/- Walks: primes, inverses, symbols, good primes, table primes. -/
import Derived.Test.YtgjdgcmmlfmhmaaGreatDoorCurve
namespace Go.Proofs.YtgjdgcmmlfmhmaaGreatDoor
open Go.RowKit

theorem root_le {d n : Int} (hd : 0 ≤ d) (h : d * d ≤ n) (hn : n ≤ 1000000000000) : d ≤ 1000000 := by
  rcases Int.lt_or_le 1000000 d with h' | h'
  · have := Int.mul_le_mul (show (1000001 : Int) ≤ d by omega) (show (1000001 : Int) ≤ d by omega) (by omega) (by omega); omega
  · exact h'
set_option maxHeartbeats 400000 in
theorem c_isPrime (n : Int) (hn : n ≤ 1000000000000) (w : World) :
    Calls Tryz.prog 98 #[.int .i64 n] w fun e w' => e = .returned (.bool (primeB n)) ∧ w = w' := by
  go_enter Tryz.func98, Tryz.ntmps98
  go_wp2
  go_loop [3] (fun x => ∃ k : Int, x = .int .i64 k ∧ 2 ≤ k ∧ k ≤ 1000001 ∧ Hid (∀ c : Int, 2 ≤ c → c < k → n % c ≠ 0)) (fun x => (1000001 - intOf x).toNat)
  case atStart => exact ⟨2, rfl, by omega, by omega, fun c _ _ => by omega⟩
  case round =>
    obtain ⟨k, rfl, hk2, hk, H⟩ := hrel
    have hkk : 4 ≤ k * k ∧ k * k ≤ 1000002000001 := ⟨by have := Int.mul_le_mul hk2 hk2 (by omega) (by omega); omega, by have := Int.mul_le_mul hk hk (by omega) (by omega); omega⟩
    by_cases h1 : k * k ≤ n
    · have hk' := root_le (by omega) h1 hn
      by_cases h2 : n % k = 0
      · have hh : (n % k == 0) = true := by simp [h2]
        have HF := Lib.hid (primeB_no hk2 h1 h2)
        clear h2
        go_wp2
        go_ret
        exact ⟨by rw [HF.out]; rfl, rfl⟩
      · have hh : (n % k == 0) = false := by simp [h2]
        have H2 := Lib.hid h2
        clear h2
        go_wp2
        go_round
        case rel => exact ⟨k + 1, rfl, by omega, by omega, fun c hc hck => by
          rcases Int.lt_or_le c k with h' | h'
          · exact H.out c hc h'
          · rw [show c = k by omega]; exact H2.out⟩
        case measure => simp [intOf]; omega
    · have HN := Lib.hid (nodiv_of hk2 H.out (by omega))
      by_cases h2 : 2 ≤ n
      · have HF := Lib.hid (primeB_mk h2 HN.out)
        go_wp2
        go_ret
        exact ⟨by rw [HF.out]; rfl, rfl⟩
      · have HF := Lib.hid (primeB_lt (show n < 2 by omega))
        go_wp2
        go_ret
        exact ⟨by rw [HF.out]; simp, rfl⟩
set_option maxHeartbeats 400000 in
theorem c_mdPrime (n : Int) (w : World) :
    Calls Tryz.prog 99 #[.int .i64 n] w fun e w' => e = .returned (.bool (inB n 2 997 && primeB n)) ∧ w = w' := by
  cases hi : inB n 2 997
  · go_enter Tryz.func99, Tryz.ntmps99
    go_wp2_with ((go_at_call 60; refine (c_l1In _ _ _ _).mono ?_; rintro e w' ⟨rfl, rfl⟩))
    go_ret
    exact ⟨rfl, rfl⟩
  · have hb := inB_true hi
    go_enter Tryz.func99, Tryz.ntmps99
    go_wp2_with ((go_at_call 60; refine (c_l1In _ _ _ _).mono ?_; rintro e w' ⟨rfl, rfl⟩))
    go_loop [3] (fun x => ∃ k : Int, x = .int .i64 k ∧ 2 ≤ k ∧ k ≤ 1000001 ∧ Hid (∀ c : Int, 2 ≤ c → c < k → n % c ≠ 0)) (fun x => (1000001 - intOf x).toNat)
    case atStart => exact ⟨2, rfl, by omega, by omega, fun c _ _ => by omega⟩
    case round =>
      obtain ⟨k, rfl, hk2, hk, H⟩ := hrel
      have hkk : 4 ≤ k * k ∧ k * k ≤ 1000002000001 := ⟨by have := Int.mul_le_mul hk2 hk2 (by omega) (by omega); omega, by have := Int.mul_le_mul hk hk (by omega) (by omega); omega⟩
      by_cases h1 : k * k ≤ n
      · have hk' := root_le (by omega) h1 (by omega)
        by_cases h2 : n % k = 0
        · have hh : (n % k == 0) = true := by simp [h2]
          have HF := Lib.hid (primeB_no hk2 h1 h2)
          clear h2
          go_wp2
          go_ret
          exact ⟨by rw [HF.out]; rfl, rfl⟩
        · have hh : (n % k == 0) = false := by simp [h2]
          have H2 := Lib.hid h2
          clear h2
          go_wp2
          go_round
          case rel => exact ⟨k + 1, rfl, by omega, by omega, fun c hc hck => by
            rcases Int.lt_or_le c k with h' | h'
            · exact H.out c hc h'
            · rw [show c = k by omega]; exact H2.out⟩
          case measure => simp [intOf]; omega
      · have HF := Lib.hid (primeB_mk hb.1 (nodiv_of hk2 H.out (by omega)))
        go_wp2
        go_ret
        exact ⟨by rw [HF.out]; rfl, rfl⟩
theorem c_inverse (a p : Int) (h0 : 2 ≤ p) (h1 : p ≤ 3000000000) (w : World) :
    Calls Tryz.prog 31 #[.int .i64 a, .int .i64 p] w fun e w' => e = .returned (.int .i64 (invM a p)) ∧ ∃ k, w' = w.drewN k := by
  go_enter Tryz.func31, Tryz.ntmps31
  go_wp2_with ((go_at_call 68; refine (c_power _ _ _ (by omega) h1 (by omega) (by omega) _).mono ?_; rintro e w' ⟨rfl, kd, rfl⟩))
  go_ret
  exact ⟨rfl, _, rfl⟩
theorem c_mdInverse (a p : Int) (h0 : 2 ≤ p) (h1 : p ≤ 3000000000) (w : World) :
    Calls Tryz.prog 38 #[.int .i64 a, .int .i64 p] w fun e w' => e = .returned (.int .i64 (invM a p)) ∧ w = w' := by
  go_enter Tryz.func38, Tryz.ntmps38
  go_wp2_with ((go_at_call 72; refine (c_mdPower _ _ _ (by omega) h1 (by omega) (by omega) _).mono ?_; rintro e w' ⟨rfl, rfl⟩))
  go_ret
  exact ⟨rfl, rfl⟩
theorem c_symbol (a p : Int) (h0 : 2 ≤ p) (h1 : p ≤ 3000000000) (w : World) :
    Calls Tryz.prog 53 #[.int .i64 a, .int .i64 p] w fun e w' => e = .returned (.int .i64 (symI a p)) ∧ ∃ k, w' = w.drewN k := by
  unfold symI
  have hc : ∀ x : Int, x = 0 ∨ x = 1 ∨ (x ≠ 0 ∧ x ≠ 1) := fun x => by omega
  rcases hc (powM a ((p - 1) / 2) p) with h | h | ⟨h, h2⟩
  · have hh : (powM a ((p - 1) / 2) p == 0) = true := by simp [h]
    rw [if_pos h]
    clear h
    go_enter Tryz.func53, Tryz.ntmps53
    go_wp2_with ((go_at_call 68; refine (c_power _ _ _ (by omega) h1 (by omega) (by omega) _).mono ?_; rintro e w' ⟨rfl, kd, rfl⟩))
    go_ret
    exact ⟨rfl, _, rfl⟩
  · have h0' : (powM a ((p - 1) / 2) p == 0) = false := by simp [h]
    have hh : (powM a ((p - 1) / 2) p == 1) = true := by simp [h]
    rw [if_neg (by omega), if_pos h]
    clear h
    go_enter Tryz.func53, Tryz.ntmps53
    go_wp2_with ((go_at_call 68; refine (c_power _ _ _ (by omega) h1 (by omega) (by omega) _).mono ?_; rintro e w' ⟨rfl, kd, rfl⟩))
    go_ret
    exact ⟨rfl, _, rfl⟩
  · have h0' : (powM a ((p - 1) / 2) p == 0) = false := by simp [h]
    have hh : (powM a ((p - 1) / 2) p == 1) = false := by simp [h2]
    rw [if_neg h, if_neg h2]
    clear h h2
    go_enter Tryz.func53, Tryz.ntmps53
    go_wp2_with ((go_at_call 68; refine (c_power _ _ _ (by omega) h1 (by omega) (by omega) _).mono ?_; rintro e w' ⟨rfl, kd, rfl⟩))
    go_ret
    exact ⟨rfl, _, rfl⟩
noncomputable def goodP (A B p : Int) : Bool := inB p 5 997 && primeB p && !(disc A B % p == 0)
theorem disc_range {A B : Int} (hA : -1000 ≤ A ∧ A ≤ 1000) (hB : -10000 ≤ B ∧ B ≤ 10000) : -7000000000 ≤ disc A B ∧ disc A B ≤ 7000000000 := by
  have := disc_bd hA hB; unfold disc; omega
theorem tmod_bne (a p : Int) : (a.tmod p != 0) = !(a % p == 0) := by
  rw [Bool.eq_iff_iff]
  simp only [bne_iff_ne, ne_eq, Bool.not_eq_true', beq_eq_false_iff_ne]
  constructor
  · intro h e; exact h (Int.tmod_eq_zero_of_dvd (Int.dvd_of_emod_eq_zero e))
  · exact tmod_ne0
where tmod_ne0 {a p : Int} (h : a % p ≠ 0) : a.tmod p ≠ 0 := fun e => h (Int.emod_eq_zero_of_dvd (Int.dvd_of_tmod_eq_zero e))
theorem c_isGood (A B p : Int) (hA : -1000 ≤ A ∧ A ≤ 1000) (hB : -10000 ≤ B ∧ B ≤ 10000) (w : World) :
    Calls Tryz.prog 65 #[.agg #[.int .i64 A, .int .i64 B], .int .i64 p] w fun e w' => e = .returned (.bool (goodP A B p)) ∧ Below w.heap.size w w' := by
  unfold goodP
  have hd := disc_range hA hB
  cases h1 : inB p 5 997
  · go_enter Tryz.func65, Tryz.ntmps65
    go_wp2_with ((go_at_call 27; refine (c_inside _ _ _ _).mono ?_; rintro e w' ⟨rfl, rfl⟩))
    go_ret
    exact ⟨rfl, (Below.refl _ _).alloc (Nat.le_refl _) _⟩
  · have hp := inB_true h1
    cases h2 : primeB p
    · go_enter Tryz.func65, Tryz.ntmps65
      go_wp2_with (first | (go_at_call 27; refine (c_inside _ _ _ _).mono ?_; rintro e w' ⟨rfl, rfl⟩) | (go_at_call 98; refine (c_isPrime _ (by omega) _).mono ?_; rintro e w' ⟨rfl, rfl⟩))
      go_ret
      exact ⟨rfl, (Below.refl _ _).alloc (Nat.le_refl _) _⟩
    · have HT := Lib.hid (tmod_bne (disc A B) p)
      go_enter Tryz.func65, Tryz.ntmps65
      go_wp2_with (first | (go_at_call 27; refine (c_inside _ _ _ _).mono ?_; rintro e w' ⟨rfl, rfl⟩) | (go_at_call 98; refine (c_isPrime _ (by omega) _).mono ?_; rintro e w' ⟨rfl, rfl⟩) | (go_at_call 76; refine (c_core _ _ hA hB _).mono ?_; rintro e w1 ⟨rfl, hb1⟩; obtain ⟨hc1, hf1⟩ := bcell hb1; have hz1 := hb1.size; (try simp only [World.size_alloc] at hz1); (try (have hy1 : w.heap.size < w1.heap.size := by omega)); (try (have hx1 := Nat.lt_of_succ_le hz1)); (try (have hv1 := Nat.lt_of_succ_le (Nat.le_of_lt hx1)))))
      go_ret
      refine ⟨by rw [← HT.out]; rfl, ?_⟩
      (repeat' (first | (with_reducible exact Below.refl _ _) | (with_reducible refine below_step (by assumption) ?_ ?_) | (with_reducible refine Below.alloc ?_ ?_ _) | (with_reducible refine Below.setCell ?_ ?_ _) | (with_reducible refine below_drewN ?_ _) | (with_reducible refine Below.drew ?_) | omega | (simp; omega) | (simp; done)))
theorem c_fmGood (A B p : Int) (w : World) :
    Calls Tryz.prog 69 #[.agg #[.int .i64 A, .int .i64 B], .int .i64 p] w fun e w' => e = .returned (.bool (curveB A B && goodP A B p)) ∧ Below w.heap.size w w' := by
  unfold goodP
  cases h0 : curveB A B
  · go_enter Tryz.func69, Tryz.ntmps69
    go_wp2_with ((go_at_call 74; refine (c_ecGood _ _ _).mono ?_; rintro e w1 ⟨rfl, hb1⟩; obtain ⟨hc1, hf1⟩ := bcell hb1; have hz1 := hb1.size; (try simp only [World.size_alloc] at hz1); (try (have hy1 : w.heap.size < w1.heap.size := by omega)); (try (have hx1 := Nat.lt_of_succ_le hz1)); (try (have hv1 := Nat.lt_of_succ_le (Nat.le_of_lt hx1)))))
    go_ret
    refine ⟨rfl, ?_⟩
    (repeat' (first | (with_reducible exact Below.refl _ _) | (with_reducible refine below_step (by assumption) ?_ ?_) | (with_reducible refine Below.alloc ?_ ?_ _) | (with_reducible refine Below.setCell ?_ ?_ _) | (with_reducible refine below_drewN ?_ _) | (with_reducible refine Below.drew ?_) | omega | (simp; omega) | (simp; done)))
  · have hA : -1000 ≤ A ∧ A ≤ 1000 := by unfold curveB at h0; simp at h0; exact inB_true h0.1.1
    have hB : -10000 ≤ B ∧ B ≤ 10000 := by unfold curveB at h0; simp at h0; exact inB_true h0.1.2
    have hd := disc_range hA hB
    cases h1 : inB p 2 997
    · have h5 : inB p 5 997 = false := by
        cases h6 : inB p 5 997
        · rfl
        · have := inB_true h6
          rw [inB_mk (by omega) (by omega)] at h1
          cases h1
      go_enter Tryz.func69, Tryz.ntmps69
      go_wp2_with (first | (go_at_call 74; refine (c_ecGood _ _ _).mono ?_; rintro e w1 ⟨rfl, hb1⟩; obtain ⟨hc1, hf1⟩ := bcell hb1; have hz1 := hb1.size; (try simp only [World.size_alloc] at hz1); (try (have hy1 : w.heap.size < w1.heap.size := by omega)); (try (have hx1 := Nat.lt_of_succ_le hz1)); (try (have hv1 := Nat.lt_of_succ_le (Nat.le_of_lt hx1)))) | (go_at_call 99; refine (c_mdPrime _ _).mono ?_; rintro e w' ⟨rfl, rfl⟩))
      go_ret
      refine ⟨by rw [h5]; rfl, ?_⟩
      (repeat' (first | (with_reducible exact Below.refl _ _) | (with_reducible refine below_step (by assumption) ?_ ?_) | (with_reducible refine Below.alloc ?_ ?_ _) | (with_reducible refine Below.setCell ?_ ?_ _) | (with_reducible refine below_drewN ?_ _) | (with_reducible refine Below.drew ?_) | omega | (simp; omega) | (simp; done)))
    · have hp := inB_true h1
      cases h2 : primeB p
      · go_enter Tryz.func69, Tryz.ntmps69
        go_wp2_with (first | (go_at_call 74; refine (c_ecGood _ _ _).mono ?_; rintro e w1 ⟨rfl, hb1⟩; obtain ⟨hc1, hf1⟩ := bcell hb1; have hz1 := hb1.size; (try simp only [World.size_alloc] at hz1); (try (have hy1 : w.heap.size < w1.heap.size := by omega)); (try (have hx1 := Nat.lt_of_succ_le hz1)); (try (have hv1 := Nat.lt_of_succ_le (Nat.le_of_lt hx1)))) | (go_at_call 99; refine (c_mdPrime _ _).mono ?_; rintro e w' ⟨rfl, rfl⟩))
        go_ret
        refine ⟨by simp, ?_⟩
        (repeat' (first | (with_reducible exact Below.refl _ _) | (with_reducible refine below_step (by assumption) ?_ ?_) | (with_reducible refine Below.alloc ?_ ?_ _) | (with_reducible refine Below.setCell ?_ ?_ _) | (with_reducible refine below_drewN ?_ _) | (with_reducible refine Below.drew ?_) | omega | (simp; omega) | (simp; done)))
      · by_cases h5 : 5 ≤ p
        · have h6 : inB p 5 997 = true := inB_mk h5 hp.2
          go_enter Tryz.func69, Tryz.ntmps69
          go_wp2_with (first | (go_at_call 74; refine (c_ecGood _ _ _).mono ?_; rintro e w1 ⟨rfl, hb1⟩; obtain ⟨hc1, hf1⟩ := bcell hb1; have hz1 := hb1.size; (try simp only [World.size_alloc] at hz1); (try (have hy1 : w.heap.size < w1.heap.size := by omega)); (try (have hx1 := Nat.lt_of_succ_le hz1)); (try (have hv1 := Nat.lt_of_succ_le (Nat.le_of_lt hx1)))) | (go_at_call 99; refine (c_mdPrime _ _).mono ?_; rintro e w' ⟨rfl, rfl⟩) | (go_at_call 100; refine (c_ecDisc _ _ hA hB _).mono ?_; rintro e w2 ⟨rfl, hb2⟩; obtain ⟨hc2, hf2⟩ := bcell hb2; have hz2 := hb2.size; (try simp only [World.size_alloc] at hz2); (try (have hy2 : w.heap.size < w2.heap.size := by omega)); (try (have hx2 := Nat.lt_of_succ_le hz2)); (try (have hv2 := Nat.lt_of_succ_le (Nat.le_of_lt hx2))); (try (have hy2_1 : w1.heap.size < w2.heap.size := by omega))) | (go_at_call 36; refine (c_mdMod _ _ (by omega) (by omega) _).mono ?_; rintro e w' ⟨rfl, rfl⟩))
          go_ret
          refine ⟨by rw [h6]; rfl, ?_⟩
          (repeat' (first | (with_reducible exact Below.refl _ _) | (with_reducible refine below_step (by assumption) ?_ ?_) | (with_reducible refine Below.alloc ?_ ?_ _) | (with_reducible refine Below.setCell ?_ ?_ _) | (with_reducible refine below_drewN ?_ _) | (with_reducible refine Below.drew ?_) | omega | (simp; omega) | (simp; done)))
        · have h6 : inB p 5 997 = false := by unfold inB; simp; omega
          go_enter Tryz.func69, Tryz.ntmps69
          go_wp2_with (first | (go_at_call 74; refine (c_ecGood _ _ _).mono ?_; rintro e w1 ⟨rfl, hb1⟩; obtain ⟨hc1, hf1⟩ := bcell hb1; have hz1 := hb1.size; (try simp only [World.size_alloc] at hz1); (try (have hy1 : w.heap.size < w1.heap.size := by omega)); (try (have hx1 := Nat.lt_of_succ_le hz1)); (try (have hv1 := Nat.lt_of_succ_le (Nat.le_of_lt hx1)))) | (go_at_call 99; refine (c_mdPrime _ _).mono ?_; rintro e w' ⟨rfl, rfl⟩))
          go_ret
          refine ⟨rfl, ?_⟩
          (repeat' (first | (with_reducible exact Below.refl _ _) | (with_reducible refine below_step (by assumption) ?_ ?_) | (with_reducible refine Below.alloc ?_ ?_ _) | (with_reducible refine Below.setCell ?_ ?_ _) | (with_reducible refine below_drewN ?_ _) | (with_reducible refine Below.drew ?_) | omega | (simp; omega) | (simp; done)))
end Go.Proofs.YtgjdgcmmlfmhmaaGreatDoor
