/- Walks: twists and scalings modulo a prime. -/
import Derived.Test.YtilgeeaobdebhaaTable
import Derived.BigRegion
namespace Go.Proofs.Ytilgeeaobdebhaa
open Go.RowKit

/-! the least residue that is no square -/
def nrN (p : Nat) : Nat := ((List.range 32).find? fun d => d ^ ((p - 1) / 2) % p == p - 1).getD 0
def nrOk (p : Nat) : Bool := !primeN p || decide (p < 5) || (decide (2 ≤ nrN p) && decide (nrN p ≤ 11) && (nrN p ^ ((p - 1) / 2) % p == p - 1) && (List.range 12).all fun d => decide (nrN p ≤ d) || decide (d < 1) || d ^ ((p - 1) / 2) % p == 1)
theorem nr_all : ∀ p : Nat, p < 32 → nrOk p = true := by decide +kernel
def nr (p : Int) : Int := nrN p.toNat
theorem powM_nat (d p : Nat) : powM d (((p : Int) - 1) / 2) p = ((d ^ ((p - 1) / 2) % p : Nat) : Int) := by
  unfold powM
  rw [show (((p : Int) - 1) / 2).toNat = (p - 1) / 2 by omega]; simp
theorem nr_facts {p : Int} (h : tabP p = true) : 2 ≤ nr p ∧ nr p ≤ 11 ∧ symI (nr p) p = -1 ∧ symS (nr p) p = -1 ∧ ∀ d : Int, 1 ≤ d → d < nr p → symI d p = 1 ∧ symS d p = 1 := by
  obtain ⟨h5, h31, hp⟩ := tabP_of h
  obtain ⟨q, rfl⟩ := Int.eq_ofNat_of_zero_le (show 0 ≤ p by omega)
  have ha := nr_all q (by omega)
  unfold nrOk at ha
  rw [primeN_of q hp (by omega)] at ha
  have hq : ¬ q < 5 := by omega
  simp only [hq, Bool.not_true, decide_false, Bool.false_or, Bool.and_eq_true, decide_eq_true_eq, beq_iff_eq] at ha
  obtain ⟨⟨⟨h2, h11⟩, hn⟩, hall⟩ := ha
  have e : nr (q : Int) = (nrN q : Nat) := by unfold nr; simp
  have hm := powM_nat (nrN q) q
  rw [hn] at hm
  refine ⟨by omega, by omega, ?_, ?_, fun d hd1 hd2 => ?_⟩
  · rw [e]; unfold symI; rw [hm, if_neg (by omega), if_neg (by omega)]
  · rw [e]; unfold symS symN; rw [hm, if_pos (by omega)]
  · obtain ⟨c, rfl⟩ := Int.eq_ofNat_of_zero_le (show 0 ≤ d by omega)
    have hc := List.all_eq_true.1 hall c (by simp; omega)
    have h1 : ¬ nrN q ≤ c := by omega
    have h2 : ¬ c < 1 := by omega
    simp only [h1, h2, decide_false, Bool.false_or, beq_iff_eq] at hc
    have hd := powM_nat c q
    rw [hc] at hd
    constructor
    · unfold symI; rw [hd, if_neg (by omega), if_pos (by omega)]
    · unfold symS symN; rw [hd, if_neg (by omega)]; rfl
def twA (p A : Int) : Int := A * nr p * nr p % p
def twB (p B : Int) : Int := B * nr p * nr p * nr p % p
theorem tw_bd {A d : Int} (h : 0 ≤ A ∧ A ≤ 1000) (hd : 0 ≤ d ∧ d ≤ 11) : (0 ≤ A * d ∧ A * d ≤ 11000) ∧ (0 ≤ A * d * d ∧ A * d * d ≤ 121000) ∧ (0 ≤ A * d * d * d ∧ A * d * d * d ≤ 1331000) := by
  have a1 : 0 ≤ A * d := Int.mul_nonneg h.1 hd.1
  have a2 : A * d ≤ 1000 * 11 := Int.mul_le_mul h.2 hd.2 hd.1 (by omega)
  have a3 : 0 ≤ A * d * d := Int.mul_nonneg a1 hd.1
  have a4 : A * d * d ≤ 11000 * 11 := Int.mul_le_mul (by omega) hd.2 hd.1 (by omega)
  have a5 : A * d * d * d ≤ 121000 * 11 := Int.mul_le_mul (by omega) hd.2 hd.1 (by omega)
  exact ⟨⟨a1, by omega⟩, ⟨a3, by omega⟩, Int.mul_nonneg a3 hd.1, by omega⟩
set_option maxHeartbeats 1000000 in
theorem c_iTwistModulo (p A B : Int) (w : World) :
    Calls Try.prog 17 #[.int .i64 p, .agg #[.int .i64 A, .int .i64 B]] w fun e w' => e = .returned (.tuple #[.agg #[.int .i64 (if tabB p A B then twA p A else 0), .int .i64 (if tabB p A B then twB p B else 0)], .bool (tabB p A B)]) ∧ Below w.heap.size w w' := by
  cases h1 : tabB p A B
  · go_enter Try.func17, Try.ntmps17
    go_wp2_with ((go_at_call 50; refine (c_isTableCurve _ _ _ _).mono ?_; rintro e w1 ⟨rfl, hb1⟩; obtain ⟨hc1, hf1⟩ := bcell hb1; have hz1 := hb1.size; (try simp only [World.size_alloc] at hz1); (try (have hy1 : w.heap.size < w1.heap.size := by omega)); (try (have hx1 := Nat.lt_of_succ_le hz1)); (try (have hv1 := Nat.lt_of_succ_le (Nat.le_of_lt hx1)))))
    refine bodyPost_ret (v := .tuple #[.agg #[.int .i64 0, .int .i64 0], .bool false]) (by simp [results, Try.results17, go_sem, hc1]) rfl ⟨rfl, ?_⟩
    (repeat' (first | (with_reducible exact Below.refl _ _) | (with_reducible refine below_step (by assumption) ?_ ?_) | (with_reducible refine Below.alloc ?_ ?_ _) | (with_reducible refine Below.setCell ?_ ?_ _) | (with_reducible refine below_drewN ?_ _) | (with_reducible refine Below.drew ?_) | omega | (simp; omega) | (simp; done)))
  · have hb := tabB_of h1
    have ht : tabP p = true := by unfold tabB at h1; simp at h1; exact h1.1.1.1
    obtain ⟨n2, n11, nI, nS, nall⟩ := nr_facts ht
    have HI := Lib.hid nI
    have HA := Lib.hid nall
    clear nI nS nall
    obtain ⟨t1, t2, t3⟩ := tw_bd (A := A) (d := nr p) (by omega) (by omega)
    obtain ⟨t4, t5, t6⟩ := tw_bd (A := B) (d := nr p) (by omega) (by omega)
    go_enter Try.func17, Try.ntmps17
    go_wp2_with ((go_at_call 50; refine (c_isTableCurve _ _ _ _).mono ?_; rintro e w1 ⟨rfl, hb1⟩; obtain ⟨hc1, hf1⟩ := bcell hb1; have hz1 := hb1.size; (try simp only [World.size_alloc] at hz1); (try (have hy1 : w.heap.size < w1.heap.size := by omega)); (try (have hx1 := Nat.lt_of_succ_le hz1)); (try (have hv1 := Nat.lt_of_succ_le (Nat.le_of_lt hx1)))))
    go_loopw [6] (fun x wr => ∃ d : Int, x = .int .i64 d ∧ 1 ≤ d ∧ d ≤ nr p ∧ ∃ k, wr = w1.drewN k) (fun x _ => (nr p - intOf x).toNat)
    case atStart => exact ⟨1, rfl, by omega, by omega, 0, rfl⟩
    case round =>
      obtain ⟨d, rfl, hd1, hd2, k, rfl⟩ := hrel
      by_cases hd : d < nr p
      · have hs := (HA.out d hd1 hd).1
        go_wp2_with ((go_at_call 51; refine (c_symbol _ _ (by omega) (by omega) _).mono ?_; rintro e w' ⟨rfl, kd, rfl⟩))
        go_roundw
        case rel => exact ⟨d + 1, rfl, by omega, by omega, _, rfl⟩
        case measure => simp [intOf]; omega
      · obtain rfl : d = nr p := by omega
        have hs := HI.out
        go_wp2_with ((go_at_call 51; refine (c_symbol _ _ (by omega) (by omega) _).mono ?_; rintro e w' ⟨rfl, kd, rfl⟩))
        obtain ⟨q1, q2, q3, q4, q5, q6, q7, q8⟩ := boxres hb1 (k + kd)
        clear hs
        generalize w1.drewN (k + kd) = W at *
        clear hc1 hf1 hz1 hy1 hx1 hb1 HI HA
        go_region
        all_goals go_wp2
        all_goals
          refine bodyPost_ret (v := .tuple #[.agg #[.int .i64 (A * nr p * nr p % p), .int .i64 (B * nr p * nr p * nr p % p)], .bool true]) (by simp [results, Try.results17, go_sem, q3, q4]) rfl ⟨rfl, ?_⟩
          (repeat' (first | (with_reducible exact Below.refl _ _) | (with_reducible refine below_step (by assumption) ?_ ?_) | (with_reducible refine Below.alloc ?_ ?_ _) | (with_reducible refine Below.setCell ?_ ?_ _) | (with_reducible refine below_drewN ?_ _) | (with_reducible refine Below.drew ?_) | omega | (simp; omega) | (simp; done)))
set_option maxHeartbeats 1000000 in
theorem c_sTwistModulo (p A B : Int) (w : World) :
    Calls Try.prog 18 #[.int .i64 p, .agg #[.int .i64 A, .int .i64 B]] w fun e w' => e = .returned (.tuple #[.agg #[.int .i64 (if tabB p A B then twA p A else 0), .int .i64 (if tabB p A B then twB p B else 0)], .bool (tabB p A B)]) ∧ Below w.heap.size w w' := by
  cases h1 : tabB p A B
  · go_enter Try.func18, Try.ntmps18
    go_wp2_with ((go_at_call 52; refine (c_ctAsked _ _ _ _).mono ?_; rintro e w1 ⟨rfl, hb1⟩; obtain ⟨hc1, hf1⟩ := bcell hb1; have hz1 := hb1.size; (try simp only [World.size_alloc] at hz1); (try (have hy1 : w.heap.size < w1.heap.size := by omega)); (try (have hx1 := Nat.lt_of_succ_le hz1)); (try (have hv1 := Nat.lt_of_succ_le (Nat.le_of_lt hx1)))))
    refine bodyPost_ret (v := .tuple #[.agg #[.int .i64 0, .int .i64 0], .bool false]) (by simp [results, Try.results18, go_sem, hc1]) rfl ⟨rfl, ?_⟩
    (repeat' (first | (with_reducible exact Below.refl _ _) | (with_reducible refine below_step (by assumption) ?_ ?_) | (with_reducible refine Below.alloc ?_ ?_ _) | (with_reducible refine Below.setCell ?_ ?_ _) | (with_reducible refine below_drewN ?_ _) | (with_reducible refine Below.drew ?_) | omega | (simp; omega) | (simp; done)))
  · have hb := tabB_of h1
    have ht : tabP p = true := by unfold tabB at h1; simp at h1; exact h1.1.1.1
    obtain ⟨n2, n11, nS, nI, nall⟩ := nr_facts ht
    have HI := Lib.hid nI
    have HA := Lib.hid nall
    clear nI nS nall
    obtain ⟨t1, t2, t3⟩ := tw_bd (A := A) (d := nr p) (by omega) (by omega)
    obtain ⟨t4, t5, t6⟩ := tw_bd (A := B) (d := nr p) (by omega) (by omega)
    go_enter Try.func18, Try.ntmps18
    go_wp2_with ((go_at_call 52; refine (c_ctAsked _ _ _ _).mono ?_; rintro e w1 ⟨rfl, hb1⟩; obtain ⟨hc1, hf1⟩ := bcell hb1; have hz1 := hb1.size; (try simp only [World.size_alloc] at hz1); (try (have hy1 : w.heap.size < w1.heap.size := by omega)); (try (have hx1 := Nat.lt_of_succ_le hz1)); (try (have hv1 := Nat.lt_of_succ_le (Nat.le_of_lt hx1)))))
    go_loopw [6] (fun x wr => ∃ d : Int, x = .int .i64 d ∧ 2 ≤ d ∧ d ≤ nr p ∧ ∃ k, wr = w1.drewN k) (fun x _ => (nr p - intOf x).toNat)
    case atStart => exact ⟨2, rfl, by omega, by omega, 0, rfl⟩
    case round =>
      obtain ⟨d, rfl, hd1, hd2, k, rfl⟩ := hrel
      by_cases hd : d < nr p
      · have hs := (HA.out d (by omega) hd).2
        go_wp2_with ((go_at_call 53; refine (c_mdSymbol _ _ (by omega) (by omega) _).mono ?_; rintro e w' ⟨rfl, rfl⟩))
        go_roundw
        case rel => exact ⟨d + 1, rfl, by omega, by omega, _, rfl⟩
        case measure => simp [intOf]; omega
      · obtain rfl : d = nr p := by omega
        have hs := HI.out
        go_wp2_with ((go_at_call 53; refine (c_mdSymbol _ _ (by omega) (by omega) _).mono ?_; rintro e w' ⟨rfl, rfl⟩))
        obtain ⟨q1, q2, q3, q4, q5, q6, q7, q8⟩ := boxres hb1 k
        clear hs
        generalize w1.drewN k = W at *
        clear hc1 hf1 hz1 hy1 hx1 hb1 HI HA
        go_region
        all_goals go_wp2
        all_goals
          refine bodyPost_ret (v := .tuple #[.agg #[.int .i64 (A * nr p * nr p % p), .int .i64 (B * nr p * nr p * nr p % p)], .bool true]) (by simp [results, Try.results18, go_sem, q3, q4]) rfl ⟨rfl, ?_⟩
          (repeat' (first | (with_reducible exact Below.refl _ _) | (with_reducible refine below_step (by assumption) ?_ ?_) | (with_reducible refine Below.alloc ?_ ?_ _) | (with_reducible refine Below.setCell ?_ ?_ _) | (with_reducible refine below_drewN ?_ _) | (with_reducible refine Below.drew ?_) | omega | (simp; omega) | (simp; done)))
end Go.Proofs.Ytilgeeaobdebhaa
