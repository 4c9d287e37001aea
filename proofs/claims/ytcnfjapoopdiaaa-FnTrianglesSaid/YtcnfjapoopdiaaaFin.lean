/- Plain: finite points of a curve, the line through two. -/
import Derived.Test.YtcnfjapoopdiaaaTra
import Derived.Test.YtcnfjapoopdiaaaPt
import Derived.Test.YtcnfjapoopdiaaaFrac
namespace Go.Proofs.Ytcnfjapoopdiaaa
open Go.RowKit

/-- the line's slope in lowest terms, and the quotient whose value is the sum's x -/
def adN (A X1 Y1 E1 X2 Y2 E2 : Int) : Int := (slN A X1 Y1 E1 X2 Y2 E2).tdiv (gcdI (slN A X1 Y1 E1 X2 Y2 E2) (slD X1 Y1 E1 X2 Y2 E2))
def adM (A X1 Y1 E1 X2 Y2 E2 : Int) : Int := (slD X1 Y1 E1 X2 Y2 E2).tdiv (gcdI (slN A X1 Y1 E1 X2 Y2 E2) (slD X1 Y1 E1 X2 Y2 E2))
def adT (n m X1 E1 X2 E2 : Int) : Int := n * n * (E1 * E1 * E2 * E2) + -(m * m * (X1 * E2 * E2 + X2 * E1 * E1))
def adB (m E1 E2 : Int) : Int := m * m * (E1 * E1 * E2 * E2)
/-- a finite point of a curve -/
def FinP (A B X Y E : Int) : Prop := (-10000 ≤ X ∧ X ≤ 10000) ∧ (1 ≤ E ∧ E ≤ 20) ∧ gcdI X E = 1 ∧ (-3000000 ≤ Y ∧ Y ≤ 3000000) ∧ Y * Y = cvV A B X E

theorem sq_dvd {x e : Int} {K : Int} (h : gcdI x e = 1) (h2 : e * e ∣ x * K) : e * e ∣ K := by
  have h1 : Nat.Coprime e.natAbs x.natAbs := by
    unfold gcdI at h
    have : Int.gcd x e = 1 := by omega
    exact (Nat.coprime_comm.1 this)
  have h3 : Nat.Coprime (e.natAbs * e.natAbs) x.natAbs := Nat.Coprime.mul_left h1 h1
  rw [← Int.natAbs_dvd_natAbs, Int.natAbs_mul, Int.natAbs_mul] at h2
  rw [← Int.natAbs_dvd_natAbs, Int.natAbs_mul]
  exact h3.dvd_of_dvd_mul_left h2
theorem same_x {X1 E1 X2 E2 : Int} (h1 : gcdI X1 E1 = 1) (h2 : gcdI X2 E2 = 1) (p1 : 1 ≤ E1) (p2 : 1 ≤ E2) (h : X2 * E1 * E1 = X1 * E2 * E2) : X1 = X2 ∧ E1 = E2 := by
  have d1 : E1 * E1 ∣ E2 * E2 := sq_dvd h1 ⟨X2, by grind⟩
  have d2 : E2 * E2 ∣ E1 * E1 := sq_dvd h2 ⟨X1, by grind⟩
  have q1 := Int.mul_pos (show 0 < E1 by omega) (show 0 < E1 by omega)
  have q2 := Int.mul_pos (show 0 < E2 by omega) (show 0 < E2 by omega)
  have e1 := Int.le_of_dvd q2 d1
  have e2 := Int.le_of_dvd q1 d2
  have e3 : E1 * E1 = E2 * E2 := by omega
  have e4 : E1 = E2 := by
    rcases Int.lt_trichotomy E1 E2 with hh | hh | hh
    · have := Int.mul_lt_mul hh (Int.le_of_lt hh) (by omega) (by omega); omega
    · exact hh
    · have := Int.mul_lt_mul hh (Int.le_of_lt hh) (by omega) (by omega); omega
  subst e4
  refine ⟨?_, rfl⟩
  have : (X2 - X1) * (E1 * E1) = 0 := by grind
  rcases Int.mul_eq_zero.1 this with h | h <;> omega
theorem sl_ne {A B X1 Y1 E1 X2 Y2 E2 : Int} (hp : FinP A B X1 Y1 E1) (hq : FinP A B X2 Y2 E2) (hno : ¬ (X1 = X2 ∧ Y1 = -Y2 ∧ E1 = E2)) : slD X1 Y1 E1 X2 Y2 E2 ≠ 0 := by
  obtain ⟨hX1, hE1, g1, hY1, c1⟩ := hp
  obtain ⟨hX2, hE2, g2, hY2, c2⟩ := hq
  unfold slD
  split
  · rename_i h
    obtain ⟨rfl, rfl, rfl⟩ := h
    intro h0
    rcases Int.mul_eq_zero.1 h0 with h | h
    · exact hno ⟨rfl, by omega, rfl⟩
    · omega
  · rename_i h
    intro h0
    have h3 : X2 * E1 * E1 - X1 * E2 * E2 = 0 := by
      rcases Int.mul_eq_zero.1 h0 with h | h
      · rcases Int.mul_eq_zero.1 h with h | h <;> omega
      · exact h
    obtain ⟨rfl, rfl⟩ := same_x g1 g2 hE1.1 hE2.1 (by omega)
    have h4 : (Y1 - Y2) * (Y1 + Y2) = 0 := by rw [← c2] at c1; grind
    rcases Int.mul_eq_zero.1 h4 with h5 | h5
    · exact h ⟨rfl, by omega, rfl⟩
    · exact hno ⟨rfl, by omega, rfl⟩
theorem low_cop {a b : Int} (h : gcdI a b ≠ 0) : gcdI (a.tdiv (gcdI a b)) (b.tdiv (gcdI a b)) = 1 := by
  unfold gcdI at *
  have e : ∀ x : Int, (x.tdiv (Int.gcd a b : Nat)).natAbs = x.natAbs / Int.gcd a b := fun x => by rw [Int.natAbs_tdiv]; rfl
  unfold Int.gcd at *
  rw [e a, e b, Nat.gcd_div (Nat.gcd_dvd_left _ _) (Nat.gcd_dvd_right _ _), Nat.div_self (by omega)]
  rfl
theorem ad_small {n m x e X1 E1 X2 E2 : Int} (hc : gcdI n m = 1) (hX1 : -10000 ≤ X1 ∧ X1 ≤ 10000) (hX2 : -10000 ≤ X2 ∧ X2 ≤ 10000) (hx : -10000 ≤ x ∧ x ≤ 10000) (hE1 : 1 ≤ E1 ∧ E1 ≤ 20) (hE2 : 1 ≤ E2 ∧ E2 ≤ 20) (he : 1 ≤ e ∧ e ≤ 20)
    (h : (n * n * (E1 * E1 * E2 * E2) + -(m * m * (X1 * E2 * E2 + X2 * E1 * E1))) * (e * e) = m * m * (E1 * E1 * E2 * E2) * x) : (-8000 ≤ m ∧ m ≤ 8000) ∧ (-2000000000 ≤ n ∧ n ≤ 2000000000) := by
  have k : n * n * (E1 * E1 * E2 * E2 * (e * e)) = m * m * (x * (E1 * E1 * E2 * E2) + (e * e) * (X1 * E2 * E2 + X2 * E1 * E1)) := by grind
  have d1 : m * m ∣ n * (n * (E1 * E1 * E2 * E2 * (e * e))) := ⟨_, by rw [← k]; grind⟩
  have d2 : m * m ∣ E1 * E1 * E2 * E2 * (e * e) := sq_dvd hc (sq_dvd hc d1)
  have a1 := mulb 20 20 (x := E1) (y := E1) (by omega) (by omega)
  have a2 := mulb 400 20 (x := E1 * E1) (y := E2) (by omega) (by omega)
  have a3 := mulb 8000 20 (x := E1 * E1 * E2) (y := E2) (by omega) (by omega)
  have a4 := mulb 20 20 (x := e) (y := e) (by omega) (by omega)
  have a5 := mulb 160000 400 (x := E1 * E1 * E2 * E2) (y := e * e) (by omega) (by omega)
  have p1 := Int.mul_pos (show 0 < E1 by omega) (show 0 < E1 by omega)
  have p2 := Int.mul_pos (Int.mul_pos p1 (show 0 < E2 by omega)) (show 0 < E2 by omega)
  have p3 := Int.mul_pos (show 0 < e by omega) (show 0 < e by omega)
  have p4 := Int.mul_pos p2 p3
  have l1 := Int.le_of_dvd p4 d2
  have hm1 : -8000 ≤ m ∧ m ≤ 8000 := by
    constructor
    · rcases Int.lt_or_le m (-8000) with hh | hh
      · have := Int.mul_le_mul (show 8001 ≤ -m by omega) (show 8001 ≤ -m by omega) (by omega) (by omega)
        rw [Int.neg_mul_neg] at this; omega
      · exact hh
    · rcases Int.lt_or_le 8000 m with hh | hh
      · have := Int.mul_le_mul (show 8001 ≤ m by omega) (show 8001 ≤ m by omega) (by omega) (by omega)
        omega
      · exact hh
  refine ⟨hm1, ?_⟩
  have b1 := mulb 8000 8000 (x := m) (y := m) (by omega) (by omega)
  have b2 := mulb 10000 160000 (x := x) (y := E1 * E1 * E2 * E2) (by omega) (by omega)
  have b3 := mulb 10000 20 (x := X1) (y := E2) (by omega) (by omega)
  have b4 := mulb 200000 20 (x := X1 * E2) (y := E2) (by omega) (by omega)
  have b5 := mulb 10000 20 (x := X2) (y := E1) (by omega) (by omega)
  have b6 := mulb 200000 20 (x := X2 * E1) (y := E1) (by omega) (by omega)
  have b7 := mulb 400 8000000 (x := e * e) (y := X1 * E2 * E2 + X2 * E1 * E1) (by omega) (by omega)
  have b8 := mulb 64000000 4800000000 (x := m * m) (y := x * (E1 * E1 * E2 * E2) + (e * e) * (X1 * E2 * E2 + X2 * E1 * E1)) (by omega) (by omega)
  have n0 : 0 ≤ n * n := by rcases Int.le_total 0 n with hh | hh; exact Int.mul_nonneg hh hh; have := Int.mul_nonneg (show 0 ≤ -n by omega) (show 0 ≤ -n by omega); rwa [Int.neg_mul_neg] at this
  have n1 : n * n * 1 ≤ n * n * (E1 * E1 * E2 * E2 * (e * e)) := Int.mul_le_mul_of_nonneg_left (by omega) n0
  have n2 : n * n ≤ 307200000000000000 := by omega
  constructor
  · rcases Int.lt_or_le n (-2000000000) with hh | hh
    · have := Int.mul_le_mul (show 2000000000 ≤ -n by omega) (show 2000000000 ≤ -n by omega) (by omega) (by omega)
      rw [Int.neg_mul_neg] at this; omega
    · exact hh
  · rcases Int.lt_or_le 2000000000 n with hh | hh
    · have := Int.mul_le_mul (show 2000000000 ≤ n by omega) (show 2000000000 ≤ n by omega) (by omega) (by omega)
      omega
    · exact hh
theorem FinP.ptIn {A B X Y E : Int} (h : FinP A B X Y E) : PtIn X Y E := ⟨h.1, h.2.2.2.1, by have := h.2.1; omega⟩
theorem slN_bd {A X1 Y1 E1 X2 Y2 E2 : Int} (hA : -1000 ≤ A ∧ A ≤ 1000) (hp : PtIn X1 Y1 E1) (hq : PtIn X2 Y2 E2) : (-48000000000 ≤ slN A X1 Y1 E1 X2 Y2 E2 ∧ slN A X1 Y1 E1 X2 Y2 E2 ≤ 48000000000) ∧ (-3200000000 ≤ slD X1 Y1 E1 X2 Y2 E2 ∧ slD X1 Y1 E1 X2 Y2 E2 ≤ 3200000000) := by
  obtain ⟨hX1, hY1, hE1⟩ := hp
  obtain ⟨hX2, hY2, hE2⟩ := hq
  obtain ⟨z1, z2, z3, z4⟩ := cub_bd 1000 (x := A) (e := E1) (by omega) hE1
  have x1 := mulb (x := 3 * X1) (y := X1) 30000 10000 (by omega) (by omega)
  have y1 := mulb (x := 2 * Y1) (y := E1) 6000000 20 (by omega) (by omega)
  obtain ⟨a1, a2, a3, _⟩ := cub_bd 3000000 (x := Y2) (e := E1) (by omega) hE1
  obtain ⟨b1, b2, b3, _⟩ := cub_bd 3000000 (x := Y1) (e := E2) (by omega) hE2
  obtain ⟨c1, c2, _, _⟩ := cub_bd 10000 (x := X2) (e := E1) (by omega) hE1
  obtain ⟨d1, d2, _, _⟩ := cub_bd 10000 (x := X1) (e := E2) (by omega) hE2
  have e1 := mulb (x := E1) (y := E2) 20 20 (by omega) (by omega)
  have e2 := mulb (x := E1 * E2) (y := X2 * E1 * E1 - X1 * E2 * E2) 400 8000000 (by omega) (by omega)
  unfold slN slD
  split <;> omega
theorem ad_facts {A B X1 Y1 E1 X2 Y2 E2 : Int} (hA : -1000 ≤ A ∧ A ≤ 1000) (hp : FinP A B X1 Y1 E1) (hq : FinP A B X2 Y2 E2) (hno : ¬ (X1 = X2 ∧ Y1 = -Y2 ∧ E1 = E2)) :
    gcdI (slN A X1 Y1 E1 X2 Y2 E2) (slD X1 Y1 E1 X2 Y2 E2) ≠ 0 ∧ (-48000000000 ≤ adN A X1 Y1 E1 X2 Y2 E2 ∧ adN A X1 Y1 E1 X2 Y2 E2 ≤ 48000000000) ∧ (-3200000000 ≤ adM A X1 Y1 E1 X2 Y2 E2 ∧ adM A X1 Y1 E1 X2 Y2 E2 ≤ 3200000000) ∧
    (∀ e x : Int, (1 ≤ e ∧ e ≤ 20) → (-10000 ≤ x ∧ x ≤ 10000) → adT (adN A X1 Y1 E1 X2 Y2 E2) (adM A X1 Y1 E1 X2 Y2 E2) X1 E1 X2 E2 * (e * e) = adB (adM A X1 Y1 E1 X2 Y2 E2) E1 E2 * x → (-8000 ≤ adM A X1 Y1 E1 X2 Y2 E2 ∧ adM A X1 Y1 E1 X2 Y2 E2 ≤ 8000) ∧ (-2000000000 ≤ adN A X1 Y1 E1 X2 Y2 E2 ∧ adN A X1 Y1 E1 X2 Y2 E2 ≤ 2000000000)) := by
  have hne := sl_ne hp hq hno
  have hd : gcdI (slN A X1 Y1 E1 X2 Y2 E2) (slD X1 Y1 E1 X2 Y2 E2) ≠ 0 := by have := (gcdI_bd (slN A X1 Y1 E1 X2 Y2 E2) _ (.inr hne)).1; omega
  obtain ⟨b1, b2⟩ := slN_bd hA hp.ptIn hq.ptIn
  have t1 := tdiv_abs (slN A X1 Y1 E1 X2 Y2 E2) (gcdI (slN A X1 Y1 E1 X2 Y2 E2) (slD X1 Y1 E1 X2 Y2 E2))
  have t2 := tdiv_abs (slD X1 Y1 E1 X2 Y2 E2) (gcdI (slN A X1 Y1 E1 X2 Y2 E2) (slD X1 Y1 E1 X2 Y2 E2))
  refine ⟨hd, by unfold adN; omega, by unfold adM; omega, fun e x he hx h => ?_⟩
  exact ad_small (low_cop hd) hp.1 hq.1 hx hp.2.1 hq.2.1 he h
/-- a point of a curve: infinity or a finite one -/
def PtV (A B X Y E : Int) : Prop := (X = 0 ∧ Y = 0 ∧ E = 0) ∨ FinP A B X Y E
end Go.Proofs.Ytcnfjapoopdiaaa
