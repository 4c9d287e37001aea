/- Plain: fractions in lowest terms; equal fractions. -/
import Derived.Test.YtpnpidepkfnofaaGcd
import Derived.Test.YtpnpidepkfnofaaLgPlain
namespace Go.Proofs.Ytpnpidepkfnofaa
open Go.RowKit

/-- by what a fraction is divided -/
def frD (n d : Int) : Int := if d < 0 then -gcdI n d else gcdI n d
theorem frD_facts {n d : Int} (hd : d ≠ 0) : frD n d ≠ 0 ∧ n.tdiv (frD n d) * frD n d = n ∧ d.tdiv (frD n d) * frD n d = d ∧ 0 < d.tdiv (frD n d) ∧ Nat.Coprime (n.tdiv (frD n d)).natAbs (d.tdiv (frD n d)).natAbs := by
  have hg : 0 < Int.gcd n d := Int.gcd_pos_iff.2 (.inr hd)
  have hab : (frD n d).natAbs = Int.gcd n d := by unfold frD gcdI; split <;> simp
  have h0 : frD n d ≠ 0 := by intro h; rw [h] at hab; simp at hab; omega
  have dn : frD n d ∣ n := by
    rw [← Int.natAbs_dvd_natAbs, hab]; exact Nat.gcd_dvd_left n.natAbs d.natAbs
  have dd : frD n d ∣ d := by
    rw [← Int.natAbs_dvd_natAbs, hab]; exact Nat.gcd_dvd_right n.natAbs d.natAbs
  have e2 := Int.tdiv_mul_cancel dd
  refine ⟨h0, Int.tdiv_mul_cancel dn, e2, ?_, ?_⟩
  · generalize d.tdiv (frD n d) = q at e2
    have hs : (frD n d < 0 ↔ d < 0) := by
      unfold frD gcdI
      split <;> omega
    rcases Int.lt_trichotomy q 0 with h | h | h
    · exfalso
      by_cases h3 : d < 0
      · have := hs.2 h3
        have := Int.mul_pos_of_neg_of_neg h this
        omega
      · have h4 : 0 < frD n d := by
          have : ¬ frD n d < 0 := fun h => h3 (hs.1 h)
          omega
        have := Int.mul_neg_of_neg_of_pos h h4
        omega
    · rw [h] at e2; omega
    · exact h
  · rw [Int.natAbs_tdiv, Int.natAbs_tdiv, hab]
    exact Nat.coprime_div_gcd_div_gcd hg
theorem low_eq {q r s t : Int} (h : q * t = s * r) (hr : 0 < r) (ht : 0 < t) (c1 : Nat.Coprime q.natAbs r.natAbs) (c2 : Nat.Coprime s.natAbs t.natAbs) : q = s ∧ r = t := by
  have h' : q.natAbs * t.natAbs = s.natAbs * r.natAbs := by rw [← Int.natAbs_mul, ← Int.natAbs_mul, h]
  have d1 : r.natAbs ∣ t.natAbs := c1.symm.dvd_of_dvd_mul_left (h' ▸ Nat.dvd_mul_left _ _)
  have d2 : t.natAbs ∣ r.natAbs := c2.symm.dvd_of_dvd_mul_left (h'.symm ▸ Nat.dvd_mul_left _ _)
  have e : r.natAbs = t.natAbs := Nat.dvd_antisymm d1 d2
  obtain rfl : r = t := by omega
  exact ⟨Int.eq_of_mul_eq_mul_right (by omega) h, rfl⟩
theorem fr_same {n d n' d' : Int} (hd : d ≠ 0) (hd' : d' ≠ 0) (h : n * d' = n' * d) : n.tdiv (frD n d) = n'.tdiv (frD n' d') ∧ d.tdiv (frD n d) = d'.tdiv (frD n' d') := by
  obtain ⟨h0, h1, h2, h3, h4⟩ := frD_facts (n := n) hd
  obtain ⟨k0, k1, k2, k3, k4⟩ := frD_facts (n := n') hd'
  refine low_eq ?_ h3 k3 h4 k4
  generalize n.tdiv (frD n d) = q at *
  generalize n'.tdiv (frD n' d') = s at *
  generalize d.tdiv (frD n d) = r at *
  generalize d'.tdiv (frD n' d') = t at *
  generalize frD n d = g at *
  generalize frD n' d' = g' at *
  have e : g * g' * (q * t) = g * g' * (s * r) := by
    calc g * g' * (q * t) = (q * g) * (t * g') := by ac_rfl
      _ = (s * g') * (r * g) := by rw [h1, k2, k1, h2, h]
      _ = _ := by ac_rfl
  exact Int.eq_of_mul_eq_mul_left (by simp only [ne_eq, Int.mul_eq_zero]; omega) e
def ivA (A B : Int) : Int := (6912 * A * A * A).tdiv (frD (6912 * A * A * A) (disc A B))
def ivD (A B : Int) : Int := (disc A B).tdiv (frD (6912 * A * A * A) (disc A B))
theorem iv_same {A B C D : Int} (h1 : curveB A B = true) (h2 : curveB C D = true) (h : inB3 (A, B) (C, D)) : ivA A B = ivA C D ∧ ivD A B = ivD C D := by
  refine fr_same (curve_disc h1) (curve_disc h2) ?_
  have h' : A * A * A * disc C D = C * C * C * disc A B := h
  calc 6912 * A * A * A * disc C D = 6912 * (A * A * A * disc C D) := by ac_rfl
    _ = 6912 * (C * C * C * disc A B) := by rw [h']
    _ = _ := by ac_rfl
end Go.Proofs.Ytpnpidepkfnofaa
