/- Walks: twists and scalings modulo a prime. -/
import Derived.Test.YtidnifogjeaigaaTable
import Derived.BigRegion
namespace Go.Proofs.Ytidnifogjeaigaa
open Go.RowKit

/-! the least residue that is no square -/
def nrN (p : Nat) : Nat := ((List.range 32).find? fun d => d ^ ((p - 1) / 2) % p == p - 1).getD 0
def nrOk (p : Nat) : Bool := !primeN p || decide (p < 5) || (decide (2 ≤ nrN p) && decide (nrN p ≤ 11) && (nrN p ^ ((p - 1) / 2) % p == p - 1) && (List.range 12).all fun d => decide (nrN p ≤ d) || decide (d < 1) || d ^ ((p - 1) / 2) % p == 1)
theorem nr_all : ∀ p : Nat, p < 32 → nrOk p = true := by decide +kernel
def nr (p : Int) : Int := nrN p.toNat
theorem powM_nat (d p : Nat) : powM d (((p : Int) - 1) / 2) p = ((d ^ ((p - 1) / 2) % p : Nat) : Int) := by
  unfold powM
  rw [show (((p : Int) - 1) / 2).toNat = (p - 1) / 2 by omega]; simp
theorem nr_facts {p : Int} (h : tabP p = true) : 2 ≤ nr p ∧ nr p ≤ 11 ∧ symI (nr p) p = -1 ∧ symS (nr p) p = -1 ∧ ∀ d : Int, 1 ≤ d → d < nr p → symI d p = 1 ∧ symS d p = 1 := by
  obtain ⟨h5, h31, hp⟩ := tabP_of h
  obtain ⟨q, rfl⟩ := Int.eq_ofNat_of_zero_le (show 0 ≤ p by omega)
  have ha := nr_all q (by omega)
  unfold nrOk at ha
  rw [primeN_of q hp (by omega)] at ha
  have hq : ¬ q < 5 := by omega
  simp only [hq, Bool.not_true, decide_false, Bool.false_or, Bool.and_eq_true, decide_eq_true_eq, beq_iff_eq] at ha
  obtain ⟨⟨⟨h2, h11⟩, hn⟩, hall⟩ := ha
  have e : nr (q : Int) = (nrN q : Nat) := by unfold nr; simp
  have hm := powM_nat (nrN q) q
  rw [hn] at hm
  refine ⟨by omega, by omega, ?_, ?_, fun d hd1 hd2 => ?_⟩
  · rw [e]; unfold symI; rw [hm, if_neg (by omega), if_neg (by omega)]
  · rw [e]; unfold symS symN; rw [hm, if_pos (by omega)]
  · obtain ⟨c, rfl⟩ := Int.eq_ofNat_of_zero_le (show 0 ≤ d by omega)
    have hc := List.all_eq_true.1 hall c (by simp; omega)
    have h1 : ¬ nrN q ≤ c := by omega
    have h2 : ¬ c < 1 := by omega
    simp only [h1, h2, decide_false, Bool.false_or, beq_iff_eq] at hc
    have hd := powM_nat c q
    rw [hc] at hd
    constructor
    · unfold symI; rw [hd, if_neg (by omega), if_pos (by omega)]
    · unfold symS symN; rw [hd, if_neg (by omega)]; rfl
def twA (p A : Int) : Int := A * nr p * nr p % p
def twB (p B : Int) : Int := B * nr p * nr p * nr p % p
theorem tw_bd {A d : Int} (h : 0 ≤ A ∧ A ≤ 1000) (hd : 0 ≤ d ∧ d ≤ 11) : (0 ≤ A * d ∧ A * d ≤ 11000) ∧ (0 ≤ A * d * d ∧ A * d * d ≤ 121000) ∧ (0 ≤ A * d * d * d ∧ A * d * d * d ≤ 1331000) := by
  have a1 : 0 ≤ A * d := Int.mul_nonneg h.1 hd.1
  have a2 : A * d ≤ 1000 * 11 := Int.mul_le_mul h.2 hd.2 hd.1 (by omega)
  have a3 : 0 ≤ A * d * d := Int.mul_nonneg a1 hd.1
  have a4 : A * d * d ≤ 11000 * 11 := Int.mul_le_mul (by omega) hd.2 hd.1 (by omega)
  have a5 : A * d * d * d ≤ 121000 * 11 := Int.mul_le_mul (by omega) hd.2 hd.1 (by omega)
  exact ⟨⟨a1, by omega⟩, ⟨a3, by omega⟩, Int.mul_nonneg a3 hd.1, by omega⟩
end Go.Proofs.Ytidnifogjeaigaa
