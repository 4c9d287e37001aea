/- Walks: twists and scalings modulo a prime. -/
import Derived.Test.YtfepjeemcodcgaaTable
import Derived.BigRegion
namespace Go.Proofs.Ytfepjeemcodcgaa
open Go.RowKit

/-! the least residue that is no square -/
def nrN (p : Nat) : Nat := ((List.range 32).find? fun d => d ^ ((p - 1) / 2) % p == p - 1).getD 0
def nrOk (p : Nat) : Bool := !primeN p || decide (p < 5) || (decide (2 ≤ nrN p) && decide (nrN p ≤ 11) && (nrN p ^ ((p - 1) / 2) % p == p - 1) && (List.range 12).all fun d => decide (nrN p ≤ d) || decide (d < 1) || d ^ ((p - 1) / 2) % p == 1)
theorem nr_all : ∀ p : Nat, p < 32 → nrOk p = true := by decide +kernel
def nr (p : Int) : Int := nrN p.toNat
theorem powM_nat (d p : Nat) : powM d (((p : Int) - 1) / 2) p = ((d ^ ((p - 1) / 2) % p : Nat) : Int) := by
  unfold powM
  rw [show (((p : Int) - 1) / 2).toNat = (p - 1) / 2 by omega]; simp
theorem nr_facts {p : Int} (h : tabP p = true) : 2 ≤ nr p ∧ nr p ≤ 11 ∧ symI (nr p) p = -1 ∧ symS (nr p) p = -1 ∧ ∀ d : Int, 1 ≤ d → d < nr p → symI d p = 1 ∧ symS d p = 1 := by
  obtain ⟨h5, h31, hp⟩ := tabP_of h
  obtain ⟨q, rfl⟩ := Int.eq_ofNat_of_zero_le (show 0 ≤ p by omega)
  have ha := nr_all q (by omega)
  unfold nrOk at ha
  rw [primeN_of q hp (by omega)] at ha
  have hq : ¬ q < 5 := by omega
  simp only [hq, Bool.not_true, decide_false, Bool.false_or, Bool.and_eq_true, decide_eq_true_eq, beq_iff_eq] at ha
  obtain ⟨⟨⟨h2, h11⟩, hn⟩, hall⟩ := ha
  have e : nr (q : Int) = (nrN q : Nat) := by unfold nr; simp
  have hm := powM_nat (nrN q) q
  rw [hn] at hm
  refine ⟨by omega, by omega, ?_, ?_, fun d hd1 hd2 => ?_⟩
  · rw [e]; unfold symI; rw [hm, if_neg (by omega), if_neg (by omega)]
  · rw [e]; unfold symS symN; rw [hm, if_pos (by omega)]
  · obtain ⟨c, rfl⟩ := Int.eq_ofNat_of_zero_le (show 0 ≤ d by omega)
    have hc := List.all_eq_true.1 hall c (by simp; omega)
    have h1 : ¬ nrN q ≤ c := by omega
    have h2 : ¬ c < 1 := by omega
    simp only [h1, h2, decide_false, Bool.false_or, beq_iff_eq] at hc
    have hd := powM_nat c q
    rw [hc] at hd
    constructor
    · unfold symI; rw [hd, if_neg (by omega), if_pos (by omega)]
    · unfold symS symN; rw [hd, if_neg (by omega)]; rfl
theorem boxres {w w1 : World} {a b x y : Value} {t t' : TypeId} (hb : Below ((w.alloc (.cells #[a, b] t)).alloc (.cells #[x, y] t')).heap.size ((w.alloc (.cells #[a, b] t)).alloc (.cells #[x, y] t')) w1) (n : Nat) :
    (w1.drewN n).cell? ⟨w.heap.size, 0, none⟩ = some a ∧ (w1.drewN n).cell? ⟨w.heap.size, 1, none⟩ = some b ∧ (w1.drewN n).cell? ⟨w.heap.size + 1, 0, none⟩ = some x ∧ (w1.drewN n).cell? ⟨w.heap.size + 1, 1, none⟩ = some y ∧
    (w1.drewN n).frozen? ⟨w.heap.size + 1, 0, none⟩ = false ∧ (w1.drewN n).frozen? ⟨w.heap.size + 1, 1, none⟩ = false ∧ w.heap.size + 1 < (w1.drewN n).heap.size ∧ Below w.heap.size w (w1.drewN n) := by
  obtain ⟨hc, hf⟩ := bcell hb
  refine ⟨?_, ?_, ?_, ?_, ?_, ?_, ?_, ?_⟩
  · exact (hc w.heap.size 0 (by simp; omega)).trans (by simp [go_sem])
  · exact (hc w.heap.size 1 (by simp; omega)).trans (by simp [go_sem])
  · exact (hc (w.heap.size + 1) 0 (by simp)).trans (by simp [go_sem])
  · exact (hc (w.heap.size + 1) 1 (by simp)).trans (by simp [go_sem])
  · exact (hf (w.heap.size + 1) 0 (by simp)).trans (by simp [go_sem])
  · exact (hf (w.heap.size + 1) 1 (by simp)).trans (by simp [go_sem])
  · have := hb.size; simp at this; exact this
  · exact below_drewN (below_step hb (by simp; omega) (((Below.refl _ _).alloc (Nat.le_refl _) _).alloc (by simp) _)) n
def twA (p A : Int) : Int := A * nr p * nr p % p
def twB (p B : Int) : Int := B * nr p * nr p * nr p % p
theorem tw_bd {A d : Int} (h : 0 ≤ A ∧ A ≤ 1000) (hd : 0 ≤ d ∧ d ≤ 11) : (0 ≤ A * d ∧ A * d ≤ 11000) ∧ (0 ≤ A * d * d ∧ A * d * d ≤ 121000) ∧ (0 ≤ A * d * d * d ∧ A * d * d * d ≤ 1331000) := by
  have a1 : 0 ≤ A * d := Int.mul_nonneg h.1 hd.1
  have a2 : A * d ≤ 1000 * 11 := Int.mul_le_mul h.2 hd.2 hd.1 (by omega)
  have a3 : 0 ≤ A * d * d := Int.mul_nonneg a1 hd.1
  have a4 : A * d * d ≤ 11000 * 11 := Int.mul_le_mul (by omega) hd.2 hd.1 (by omega)
  have a5 : A * d * d * d ≤ 121000 * 11 := Int.mul_le_mul (by omega) hd.2 hd.1 (by omega)
  exact ⟨⟨a1, by omega⟩, ⟨a3, by omega⟩, Int.mul_nonneg a3 hd.1, by omega⟩
set_option maxHeartbeats 1000000 in
theorem c_iTwistModulo (p A B : Int) (w : World) :
    Calls Try.prog 32 #[.int .i64 p, .agg #[.int .i64 A, .int .i64 B]] w fun e w' => e = .returned (.tuple #[.agg #[.int .i64 (if tabB p A B then twA p A else 0), .int .i64 (if tabB p A B then twB p B else 0)], .bool (tabB p A B)]) ∧ Below w.heap.size w w' := by
  cases h1 : tabB p A B
  · go_enter Try.func32, Try.ntmps32
    go_wp2_with ((go_at_call 49; refine (c_isTableCurve _ _ _ _).mono ?_; rintro e w1 ⟨rfl, hb1⟩; obtain ⟨hc1, hf1⟩ := bcell hb1; have hz1 := hb1.size; (try simp only [World.size_alloc] at hz1); (try (have hy1 : w.heap.size < w1.heap.size := by omega)); (try (have hx1 := Nat.lt_of_succ_le hz1)); (try (have hv1 := Nat.lt_of_succ_le (Nat.le_of_lt hx1)))))
    refine bodyPost_ret (v := .tuple #[.agg #[.int .i64 0, .int .i64 0], .bool false]) (by simp [results, Try.results32, go_sem, hc1]) rfl ⟨rfl, ?_⟩
    (repeat' (first | (with_reducible exact Below.refl _ _) | (with_reducible refine below_step (by assumption) ?_ ?_) | (with_reducible refine Below.alloc ?_ ?_ _) | (with_reducible refine Below.setCell ?_ ?_ _) | (with_reducible refine below_drewN ?_ _) | (with_reducible refine Below.drew ?_) | omega | (simp; omega) | (simp; done)))
  · have hb := tabB_of h1
    have ht : tabP p = true := by unfold tabB at h1; simp at h1; exact h1.1.1.1
    obtain ⟨n2, n11, nI, nS, nall⟩ := nr_facts ht
    have HI := Lib.hid nI
    have HA := Lib.hid nall
    clear nI nS nall
    obtain ⟨t1, t2, t3⟩ := tw_bd (A := A) (d := nr p) (by omega) (by omega)
    obtain ⟨t4, t5, t6⟩ := tw_bd (A := B) (d := nr p) (by omega) (by omega)
    go_enter Try.func32, Try.ntmps32
    go_wp2_with ((go_at_call 49; refine (c_isTableCurve _ _ _ _).mono ?_; rintro e w1 ⟨rfl, hb1⟩; obtain ⟨hc1, hf1⟩ := bcell hb1; have hz1 := hb1.size; (try simp only [World.size_alloc] at hz1); (try (have hy1 : w.heap.size < w1.heap.size := by omega)); (try (have hx1 := Nat.lt_of_succ_le hz1)); (try (have hv1 := Nat.lt_of_succ_le (Nat.le_of_lt hx1)))))
    go_loopw [6] (fun x wr => ∃ d : Int, x = .int .i64 d ∧ 1 ≤ d ∧ d ≤ nr p ∧ ∃ k, wr = w1.drewN k) (fun x _ => (nr p - intOf x).toNat)
    case atStart => exact ⟨1, rfl, by omega, by omega, 0, rfl⟩
    case round =>
      obtain ⟨d, rfl, hd1, hd2, k, rfl⟩ := hrel
      by_cases hd : d < nr p
      · have hs := (HA.out d hd1 hd).1
        go_wp2_with ((go_at_call 61; refine (c_symbol _ _ (by omega) (by omega) _).mono ?_; rintro e w' ⟨rfl, kd, rfl⟩))
        go_roundw
        case rel => exact ⟨d + 1, rfl, by omega, by omega, _, rfl⟩
        case measure => simp [intOf]; omega
      · obtain rfl : d = nr p := by omega
        have hs := HI.out
        go_wp2_with ((go_at_call 61; refine (c_symbol _ _ (by omega) (by omega) _).mono ?_; rintro e w' ⟨rfl, kd, rfl⟩))
        obtain ⟨q1, q2, q3, q4, q5, q6, q7, q8⟩ := boxres hb1 (k + kd)
        clear hs
        generalize w1.drewN (k + kd) = W at *
        clear hc1 hf1 hz1 hy1 hx1 hb1 HI HA
        go_region
        all_goals go_wp2
        all_goals
          refine bodyPost_ret (v := .tuple #[.agg #[.int .i64 (A * nr p * nr p % p), .int .i64 (B * nr p * nr p * nr p % p)], .bool true]) (by simp [results, Try.results32, go_sem, q3, q4]) rfl ⟨rfl, ?_⟩
          (repeat' (first | (with_reducible exact Below.refl _ _) | (with_reducible refine below_step (by assumption) ?_ ?_) | (with_reducible refine Below.alloc ?_ ?_ _) | (with_reducible refine Below.setCell ?_ ?_ _) | (with_reducible refine below_drewN ?_ _) | (with_reducible refine Below.drew ?_) | omega | (simp; omega) | (simp; done)))
set_option maxHeartbeats 1000000 in
theorem c_sTwistModulo (p A B : Int) (w : World) :
    Calls Try.prog 31 #[.int .i64 p, .agg #[.int .i64 A, .int .i64 B]] w fun e w' => e = .returned (.tuple #[.agg #[.int .i64 (if tabB p A B then twA p A else 0), .int .i64 (if tabB p A B then twB p B else 0)], .bool (tabB p A B)]) ∧ Below w.heap.size w w' := by
  cases h1 : tabB p A B
  · go_enter Try.func31, Try.ntmps31
    go_wp2_with ((go_at_call 47; refine (c_ctAsked _ _ _ _).mono ?_; rintro e w1 ⟨rfl, hb1⟩; obtain ⟨hc1, hf1⟩ := bcell hb1; have hz1 := hb1.size; (try simp only [World.size_alloc] at hz1); (try (have hy1 : w.heap.size < w1.heap.size := by omega)); (try (have hx1 := Nat.lt_of_succ_le hz1)); (try (have hv1 := Nat.lt_of_succ_le (Nat.le_of_lt hx1)))))
    refine bodyPost_ret (v := .tuple #[.agg #[.int .i64 0, .int .i64 0], .bool false]) (by simp [results, Try.results31, go_sem, hc1]) rfl ⟨rfl, ?_⟩
    (repeat' (first | (with_reducible exact Below.refl _ _) | (with_reducible refine below_step (by assumption) ?_ ?_) | (with_reducible refine Below.alloc ?_ ?_ _) | (with_reducible refine Below.setCell ?_ ?_ _) | (with_reducible refine below_drewN ?_ _) | (with_reducible refine Below.drew ?_) | omega | (simp; omega) | (simp; done)))
  · have hb := tabB_of h1
    have ht : tabP p = true := by unfold tabB at h1; simp at h1; exact h1.1.1.1
    obtain ⟨n2, n11, nS, nI, nall⟩ := nr_facts ht
    have HI := Lib.hid nI
    have HA := Lib.hid nall
    clear nI nS nall
    obtain ⟨t1, t2, t3⟩ := tw_bd (A := A) (d := nr p) (by omega) (by omega)
    obtain ⟨t4, t5, t6⟩ := tw_bd (A := B) (d := nr p) (by omega) (by omega)
    go_enter Try.func31, Try.ntmps31
    go_wp2_with ((go_at_call 47; refine (c_ctAsked _ _ _ _).mono ?_; rintro e w1 ⟨rfl, hb1⟩; obtain ⟨hc1, hf1⟩ := bcell hb1; have hz1 := hb1.size; (try simp only [World.size_alloc] at hz1); (try (have hy1 : w.heap.size < w1.heap.size := by omega)); (try (have hx1 := Nat.lt_of_succ_le hz1)); (try (have hv1 := Nat.lt_of_succ_le (Nat.le_of_lt hx1)))))
    go_loopw [6] (fun x wr => ∃ d : Int, x = .int .i64 d ∧ 2 ≤ d ∧ d ≤ nr p ∧ ∃ k, wr = w1.drewN k) (fun x _ => (nr p - intOf x).toNat)
    case atStart => exact ⟨2, rfl, by omega, by omega, 0, rfl⟩
    case round =>
      obtain ⟨d, rfl, hd1, hd2, k, rfl⟩ := hrel
      by_cases hd : d < nr p
      · have hs := (HA.out d (by omega) hd).2
        go_wp2_with ((go_at_call 58; refine (c_mdSymbol _ _ (by omega) (by omega) _).mono ?_; rintro e w' ⟨rfl, rfl⟩))
        go_roundw
        case rel => exact ⟨d + 1, rfl, by omega, by omega, _, rfl⟩
        case measure => simp [intOf]; omega
      · obtain rfl : d = nr p := by omega
        have hs := HI.out
        go_wp2_with ((go_at_call 58; refine (c_mdSymbol _ _ (by omega) (by omega) _).mono ?_; rintro e w' ⟨rfl, rfl⟩))
        obtain ⟨q1, q2, q3, q4, q5, q6, q7, q8⟩ := boxres hb1 k
        clear hs
        generalize w1.drewN k = W at *
        clear hc1 hf1 hz1 hy1 hx1 hb1 HI HA
        go_region
        all_goals go_wp2
        all_goals
          refine bodyPost_ret (v := .tuple #[.agg #[.int .i64 (A * nr p * nr p % p), .int .i64 (B * nr p * nr p * nr p % p)], .bool true]) (by simp [results, Try.results31, go_sem, q3, q4]) rfl ⟨rfl, ?_⟩
          (repeat' (first | (with_reducible exact Below.refl _ _) | (with_reducible refine below_step (by assumption) ?_ ?_) | (with_reducible refine Below.alloc ?_ ?_ _) | (with_reducible refine Below.setCell ?_ ?_ _) | (with_reducible refine below_drewN ?_ _) | (with_reducible refine Below.drew ?_) | omega | (simp; omega) | (simp; done)))
theorem walk_FnExactTwistModulo (p A B : Int) (_ : (Lit.int .i64 p).wf = true) (_ : (Lit.int .i64 A).wf = true) (_ : (Lit.int .i64 B).wf = true) (w : World) :
    Calls Try.prog 10 #[.int .i64 p, .agg #[.int .i64 A, .int .i64 B]] w fun e w' => e = .returned (.bool true) ∧ Below w.heap.size w w' := by
  have h1 := c_sTwistModulo p A B
  have h2 := c_iTwistModulo p A B
  generalize (if tabB p A B then twA p A else 0) = X at h1 h2
  generalize (if tabB p A B then twB p B else 0) = Y at h1 h2
  cases hs : tabB p A B
  all_goals
    rw [hs] at h1 h2
    have H1 := Lib.hid h1
    have H2 := Lib.hid h2
    clear h1 h2 hs
    go_enter Try.func10, Try.ntmps10
    go_wp2_with fail
    (go_at_call 20; refine (c_toCurve _ _ _).mono ?_; rintro e w1 ⟨rfl, hb1⟩; obtain ⟨hc1, hf1⟩ := bcell hb1; have hz1 := hb1.size; (try simp only [World.size_alloc] at hz1); (try (have hy1 : w.heap.size < w1.heap.size := by omega)); (try (have hx1 := Nat.lt_of_succ_le hz1)); (try (have hv1 := Nat.lt_of_succ_le (Nat.le_of_lt hx1))))
    go_wp2_with fail
    (go_at_call 31; refine (H1.out _).mono ?_; rintro e w2 ⟨rfl, hb2⟩; obtain ⟨hc2, hf2⟩ := bcell hb2; have hz2 := hb2.size; (try simp only [World.size_alloc] at hz2); (try (have hy2 : w.heap.size < w2.heap.size := by omega)); (try (have hx2 := Nat.lt_of_succ_le hz2)); (try (have hv2 := Nat.lt_of_succ_le (Nat.le_of_lt hx2))); (try (have hy2_1 : w1.heap.size < w2.heap.size := by omega)))
    go_wp2_with fail
    (go_at_call 20; refine (c_toCurve _ _ _).mono ?_; rintro e w3 ⟨rfl, hb3⟩; obtain ⟨hc3, hf3⟩ := bcell hb3; have hz3 := hb3.size; (try simp only [World.size_alloc] at hz3); (try (have hy3 : w.heap.size < w3.heap.size := by omega)); (try (have hx3 := Nat.lt_of_succ_le hz3)); (try (have hv3 := Nat.lt_of_succ_le (Nat.le_of_lt hx3))); (try (have hy3_1 : w1.heap.size < w3.heap.size := by omega)); (try (have hy3_2 : w2.heap.size < w3.heap.size := by omega)))
    go_wp2_with fail
    (go_at_call 32; refine (H2.out _).mono ?_; rintro e w4 ⟨rfl, hb4⟩; obtain ⟨hc4, hf4⟩ := bcell hb4; have hz4 := hb4.size; (try simp only [World.size_alloc] at hz4); (try (have hy4 : w.heap.size < w4.heap.size := by omega)); (try (have hx4 := Nat.lt_of_succ_le hz4)); (try (have hv4 := Nat.lt_of_succ_le (Nat.le_of_lt hx4))); (try (have hy4_1 : w1.heap.size < w4.heap.size := by omega)); (try (have hy4_2 : w2.heap.size < w4.heap.size := by omega)); (try (have hy4_3 : w3.heap.size < w4.heap.size := by omega)))
    go_wp2_with fail
    (go_at_call 33; refine (c_eqCurve _ _ _ _ _).mono ?_; rintro e w5 ⟨rfl, hb5⟩; obtain ⟨hc5, hf5⟩ := bcell hb5; have hz5 := hb5.size; (try simp only [World.size_alloc] at hz5); (try (have hy5 : w.heap.size < w5.heap.size := by omega)); (try (have hx5 := Nat.lt_of_succ_le hz5)); (try (have hv5 := Nat.lt_of_succ_le (Nat.le_of_lt hx5))); (try (have hy5_1 : w1.heap.size < w5.heap.size := by omega)); (try (have hy5_2 : w2.heap.size < w5.heap.size := by omega)); (try (have hy5_3 : w3.heap.size < w5.heap.size := by omega)); (try (have hy5_4 : w4.heap.size < w5.heap.size := by omega)))
    go_wp2
    go_ret
    refine ⟨rfl, ?_⟩
    (repeat' (first | (with_reducible exact Below.refl _ _) | (with_reducible refine below_step (by assumption) ?_ ?_) | (with_reducible refine Below.alloc ?_ ?_ _) | (with_reducible refine Below.setCell ?_ ?_ _) | (with_reducible refine below_drewN ?_ _) | (with_reducible refine Below.drew ?_) | omega | (simp; omega) | (simp; done)))
end Go.Proofs.Ytfepjeemcodcgaa
