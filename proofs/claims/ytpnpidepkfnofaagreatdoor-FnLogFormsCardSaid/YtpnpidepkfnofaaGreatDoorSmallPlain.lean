/- Plain: smallest models, logs to them. -/
import Derived.Test.YtpnpidepkfnofaaGreatDoorFacPlain
namespace Go.Proofs.YtpnpidepkfnofaaGreatDoor
open Go.RowKit

def dvB (A B u : Int) : Bool := (A % (u * u * u * u) == 0) && (B % (u * u * u * u * u * u) == 0)
def bestF (A B : Int) : Nat → Int
  | 0 => 1
  | k + 1 => if dvB A B ((k : Int) + 2) = true then (k : Int) + 2 else bestF A B k
def smU (A B : Int) : Int := bestF A B 4
theorem bestF_bd (A B : Int) : ∀ k, 1 ≤ bestF A B k ∧ bestF A B k ≤ (k : Int) + 1
  | 0 => by simp [bestF]
  | k + 1 => by
    unfold bestF
    have := bestF_bd A B k
    split <;> omega
theorem dvB_one (A B : Int) : dvB A B 1 = true := by simp [dvB]
theorem bestF_dv (A B : Int) : ∀ k, dvB A B (bestF A B k) = true
  | 0 => by simp [bestF, dvB_one]
  | k + 1 => by
    unfold bestF
    split
    · assumption
    · exact bestF_dv A B k
theorem bestF_max (A B : Int) : ∀ (k : Nat) (u : Int), bestF A B k < u → u ≤ (k : Int) + 1 → dvB A B u = false
  | 0, u, h, h1 => by simp [bestF] at h; omega
  | k + 1, u, h, h1 => by
    unfold bestF at h
    by_cases hd : dvB A B ((k : Int) + 2) = true
    · rw [if_pos hd] at h; omega
    · rw [if_neg hd] at h
      by_cases hu : u = (k : Int) + 2
      · subst hu; simpa using hd
      · exact bestF_max A B k u h (by omega)
theorem mod_small {a m : Int} (h : a % m = 0) (hm : -m < a) (hm' : a < m) : a = 0 := by
  obtain ⟨c, rfl⟩ := Int.dvd_of_emod_eq_zero h
  have hm0 : 0 < m := by omega
  rcases Int.lt_trichotomy c 0 with h1 | h1 | h1
  · exfalso
    have := Int.mul_le_mul_of_nonneg_left (show c ≤ -1 by omega) (Int.le_of_lt hm0)
    rw [Int.mul_neg, Int.mul_one] at this
    omega
  · rw [h1, Int.mul_zero]
  · exfalso
    have := Int.mul_le_mul_of_nonneg_left (show 1 ≤ c by omega) (Int.le_of_lt hm0)
    rw [Int.mul_one] at this
    omega
theorem pow_ge {u : Int} (h : 6 ≤ u) (h1 : u ≤ 10) : (1296 ≤ u * u * u * u ∧ u * u * u * u ≤ 10000) ∧ 46656 ≤ u * u * u * u * u * u := by
  rcases (by omega : u = 6 ∨ u = 7 ∨ u = 8 ∨ u = 9 ∨ u = 10) with rfl | rfl | rfl | rfl | rfl <;> decide
/-- no greater number divides: a curve's coefficients are too small -/
theorem dvB_big {A B u : Int} (hA : -1000 ≤ A ∧ A ≤ 1000) (hB : -10000 ≤ B ∧ B ≤ 10000) (h0 : A ≠ 0 ∨ B ≠ 0) (h : 6 ≤ u) (h1 : u ≤ 10) : dvB A B u = false := by
  obtain ⟨⟨p1, _⟩, p2⟩ := pow_ge h h1
  cases hd : dvB A B u
  · rfl
  · exfalso
    unfold dvB at hd
    simp only [Bool.and_eq_true, beq_iff_eq] at hd
    have a0 := mod_small hd.1 (by omega) (by omega)
    have b0 := mod_small hd.2 (by omega) (by omega)
    omega
theorem smU_max {A B u : Int} (hA : -1000 ≤ A ∧ A ≤ 1000) (hB : -10000 ≤ B ∧ B ≤ 10000) (h0 : A ≠ 0 ∨ B ≠ 0) (h : smU A B < u) (h1 : u ≤ 10) : dvB A B u = false := by
  by_cases h5 : u ≤ 5
  · exact bestF_max A B 4 u h (by simpa using h5)
  · exact dvB_big hA hB h0 (by omega) h1
theorem smU_bd (A B : Int) : 1 ≤ smU A B ∧ smU A B ≤ 5 := by have := bestF_bd A B 4; unfold smU; simp at this; omega
theorem tmod_beq (a m : Int) : (a.tmod m == 0) = (a % m == 0) := by
  rw [Bool.eq_iff_iff]
  simp only [beq_iff_eq]
  exact ⟨fun h => Int.emod_eq_zero_of_dvd (Int.dvd_of_tmod_eq_zero h), fun h => Int.tmod_eq_zero_of_dvd (Int.dvd_of_emod_eq_zero h)⟩
theorem tdiv_eq {a m : Int} (h : a % m = 0) : a.tdiv m = a / m := by
  by_cases hm : m = 0
  · subst hm; simp
  · obtain ⟨c, rfl⟩ := Int.dvd_of_emod_eq_zero h
    rw [Int.mul_tdiv_cancel_left c hm, Int.mul_ediv_cancel_left c hm]
def sm4 (A u : Int) : Int := A / (u * u * u * u)
def sm6 (B u : Int) : Int := B / (u * u * u * u * u * u)

/-! logs -/
theorem strip_dvd : ∀ (f : Nat) (n q : Int), stripF f n q ∣ n
  | 0, n, q => by simp [stripF]
  | f + 1, n, q => by
    unfold stripF; split
    · next h =>
      have h1 := strip_dvd f (n / q) q
      have h2 : n / q ∣ n := ⟨q, by rw [Int.ediv_mul_cancel (Int.dvd_of_emod_eq_zero h)]⟩
      exact Int.dvd_trans h1 h2
    · exact Int.dvd_refl _
theorem strip_no : ∀ (f : Nat) (n q : Int), 1 ≤ n → 2 ≤ q → n.toNat ≤ f → stripF f n q % q ≠ 0
  | 0, n, q, hn, _, hf => by omega
  | f + 1, n, q, hn, hq, hf => by
    unfold stripF; split
    · next h =>
      have h1 := div_pos_facts hn hq h
      exact strip_no f (n / q) q h1.1 hq (by omega)
    · assumption
def NoSm (u p : Int) : Prop := ∀ d : Int, 2 ≤ d → d < p → u % d ≠ 0
theorem NoSm.two (u : Int) : NoSm u 2 := fun d h h' => by omega
theorem NoSm.le {u p : Int} (h : NoSm u p) (hu : 1 < u) : p ≤ u := by
  rcases Int.lt_or_le u p with h' | h'
  · exact absurd Int.emod_self (h u (by omega) h')
  · exact h'
theorem NoSm.step {u p : Int} (h : NoSm u p) (hu : 1 ≤ u) (hp : 2 ≤ p) : NoSm (strip u p) (p + 1) := fun d hd hdp => by
  by_cases e : d = p
  · rw [e]; exact strip_no _ _ _ hu hp (Nat.le_refl _)
  · intro h0
    exact h d hd (by omega) (Int.emod_eq_zero_of_dvd (Int.dvd_trans (Int.dvd_of_emod_eq_zero h0) (strip_dvd _ _ _)))
def slF : Nat → Int → Int → List (Int × Int)
  | 0, _, _ => []
  | f + 1, u, p => if 1 < u then List.replicate (val u p).toNat (1, p) ++ slF f (strip u p) (p + 1) else []
def slL (u : Int) : List (Int × Int) := slF 6 u 2
def spL (u : Int) : List (Int × Int) := (factL u).flatMap fun f => List.replicate f.2.toNat (1, f.1)
theorem sl_all : ∀ k : Nat, k < 6 → slL k = spL k := by decide +kernel
theorem sl_eq {u : Int} (h : 0 ≤ u) (h1 : u ≤ 5) : slL u = spL u := by
  have := sl_all u.toNat (by omega)
  rwa [show ((u.toNat : Nat) : Int) = u by omega] at this
theorem sl_len : ∀ k : Nat, k < 6 → (spL k).length ≤ 5 ∧ (factL k).length ≤ 5 ∧ (factL k).all (fun f => decide (1 ≤ f.2) && decide (f.2 ≤ 5) && decide (2 ≤ f.1) && decide (f.1 ≤ 5)) = true := by decide +kernel
theorem slF_one (f : Nat) {u p : Int} (h : u ≤ 1) : slF f u p = [] := by cases f <;> simp [slF]; intro h'; omega
end Go.Proofs.YtpnpidepkfnofaaGreatDoor
