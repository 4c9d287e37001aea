/- Plain: what a step makes of a curve. -/
import Derived.Test.YtpnpidepkfnofaaGreatDoorSmallPlain
import Derived.Test.YtpnpidepkfnofaaGreatDoorCurve
import Derived.Test.YtpnpidepkfnofaaGreatDoorTwist
namespace Go.Proofs.YtpnpidepkfnofaaGreatDoor
open Go.RowKit

def rs (o : Bool) (A : Int) : Int := if o then A else 0
def udB (A B v : Int) : Bool := (A % (v * v) == 0) && (B % (v * v * v) == 0)
def apOk (k A B v : Int) : Bool := if k = 0 then curveB (A * v * v * v * v) (B * v * v * v * v * v * v) else if k = 1 then dvB A B v else if k = 2 then curveB (A * v * v) (B * v * v * v) else udB A B v
def apA (k A v : Int) : Int := if k = 0 then A * v * v * v * v else if k = 1 then A / (v * v * v * v) else if k = 2 then A * v * v else A / (v * v)
def apB (k B v : Int) : Int := if k = 0 then B * v * v * v * v * v * v else if k = 1 then B / (v * v * v * v * v * v) else if k = 2 then B * v * v * v else B / (v * v * v)
theorem disc_scale (A B m n : Int) (h : m * m * m = n * n) : disc (A * m) (B * n) = m * m * m * disc A B := by
  unfold disc
  rw [Int.mul_add, show 4 * (A * m) * (A * m) * (A * m) = m * m * m * (4 * A * A * A) by ac_rfl, show 27 * (B * n) * (B * n) = n * n * (27 * B * B) by ac_rfl, h]
theorem inB_of {x a b : Int} (h : a ≤ x) (h' : x ≤ b) : inB x a b = true := by unfold inB; simp [h, h']
theorem div_in {x m b : Int} (hm : 0 < m) (hx : -b ≤ x ∧ x ≤ b) (hd : x % m = 0) : -b ≤ x / m ∧ x / m ≤ b := by
  obtain ⟨c, rfl⟩ := Int.dvd_of_emod_eq_zero hd
  rw [Int.mul_ediv_cancel_left c (by omega)]
  have h1 : c.natAbs ≤ (m * c).natAbs := by rw [Int.natAbs_mul]; exact Nat.le_mul_of_pos_left _ (by omega)
  omega
theorem divn_in {x m b : Int} (hm : m ≠ 0) (hx : -b ≤ x ∧ x ≤ b) (hd : x % m = 0) : -b ≤ x / m ∧ x / m ≤ b := by
  obtain ⟨c, rfl⟩ := Int.dvd_of_emod_eq_zero hd
  rw [Int.mul_ediv_cancel_left c hm]
  have h1 : c.natAbs ≤ (m * c).natAbs := by rw [Int.natAbs_mul]; exact Nat.le_mul_of_pos_left _ (by omega)
  omega
theorem curveB_div {A B m n : Int} (hm : m ≠ 0) (hn : n ≠ 0) (h : m * m * m = n * n) (hc : curveB A B = true) (hA : A % m = 0) (hB : B % n = 0) : curveB (A / m) (B / n) = true := by
  unfold curveB at hc ⊢
  simp only [Bool.and_eq_true, Bool.not_eq_true', beq_eq_false_iff_ne] at hc ⊢
  obtain ⟨⟨h1, h2⟩, h3⟩ := hc
  have a := divn_in hm (inB_true h1) hA
  have b := divn_in hn (inB_true h2) hB
  refine ⟨⟨inB_of a.1 a.2, inB_of b.1 b.2⟩, fun h0 => h3 ?_⟩
  have := disc_scale (A / m) (B / n) m n h
  rw [Int.ediv_mul_cancel (Int.dvd_of_emod_eq_zero hA), Int.ediv_mul_cancel (Int.dvd_of_emod_eq_zero hB), h0, Int.mul_zero] at this
  exact this
theorem curveB_dv {A B v : Int} (hv : v ≠ 0) (hc : curveB A B = true) (h : dvB A B v = true) : curveB (A / (v * v * v * v)) (B / (v * v * v * v * v * v)) = true := by
  unfold dvB at h
  simp only [Bool.and_eq_true, beq_iff_eq] at h
  refine curveB_div ?_ ?_ (by ac_rfl) hc h.1 h.2
  all_goals
    intro h0
    simp only [Int.mul_eq_zero] at h0
    omega
theorem curveB_ud {A B v : Int} (hv : v ≠ 0) (hc : curveB A B = true) (h : udB A B v = true) : curveB (A / (v * v)) (B / (v * v * v)) = true := by
  unfold udB at h
  simp only [Bool.and_eq_true, beq_iff_eq] at h
  refine curveB_div ?_ ?_ (by ac_rfl) hc h.1 h.2
  all_goals
    intro h0
    simp only [Int.mul_eq_zero] at h0
    omega
theorem curveB_of {A B : Int} (h : curveB A B = true) : (-1000 ≤ A ∧ A ≤ 1000) ∧ (-10000 ≤ B ∧ B ≤ 10000) := by
  unfold curveB at h
  simp only [Bool.and_eq_true] at h
  exact ⟨inB_true h.1.1, inB_true h.1.2⟩
theorem stepB_cases {k v : Int} (h : stepB k v = true) : (k = 0 ∧ inB v 2 5 = true) ∨ (k = 1 ∧ inB v 2 5 = true) ∨ (k = 2 ∧ twistB v = true ∧ v ≠ 1) ∨ (k = 3 ∧ twistB v = true ∧ v ≠ 1) := by
  unfold stepB at h
  by_cases h1 : k = 0 ∨ k = 1
  · rw [if_pos h1] at h
    rcases h1 with h1 | h1
    · exact .inl ⟨h1, h⟩
    · exact .inr (.inl ⟨h1, h⟩)
  · rw [if_neg h1] at h
    by_cases h2 : k = 2 ∨ k = 3
    · rw [if_pos h2] at h
      simp only [Bool.and_eq_true, Bool.not_eq_true', beq_eq_false_iff_ne] at h
      rcases h2 with h2 | h2
      · exact .inr (.inr (.inl ⟨h2, h⟩))
      · exact .inr (.inr (.inr ⟨h2, h⟩))
    · rw [if_neg h2] at h; cases h
theorem ap_curve {k A B v : Int} (hs : stepB k v = true) (hc : curveB A B = true) (ho : apOk k A B v = true) : curveB (apA k A v) (apB k B v) = true := by
  have tw0 : ∀ {v}, twistB v = true → v ≠ 0 := fun h => by unfold twistB at h; simp at h; exact h.1.2
  rcases stepB_cases hs with ⟨rfl, h⟩ | ⟨rfl, h⟩ | ⟨rfl, h, _⟩ | ⟨rfl, h, _⟩
  · exact ho
  · exact curveB_dv (by have := inB_true h; omega) hc ho
  · exact ho
  · exact curveB_ud (tw0 h) hc ho
end Go.Proofs.YtpnpidepkfnofaaGreatDoor
