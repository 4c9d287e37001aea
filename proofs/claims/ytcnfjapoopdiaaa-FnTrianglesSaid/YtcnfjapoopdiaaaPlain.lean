/- Plain mathematics, no program in sight: residues, powers, primes. -/
import Derived.WalkKit
namespace Go.Proofs.Ytcnfjapoopdiaaa
open Go.RowKit

def inB (n lo hi : Int) : Bool := decide (lo ≤ n) && decide (n ≤ hi)
theorem inB_iff {n lo hi : Int} : inB n lo hi = true ↔ lo ≤ n ∧ n ≤ hi := by unfold inB; simp
theorem inB_true {n lo hi : Int} (h : inB n lo hi = true) : lo ≤ n ∧ n ≤ hi := inB_iff.1 h
theorem inB_mk {n lo hi : Int} (h : lo ≤ n) (h' : n ≤ hi) : inB n lo hi = true := inB_iff.2 ⟨h, h'⟩

theorem tmod_bd (a m : Int) (h : 0 < m) : -m < a.tmod m ∧ a.tmod m < m := by
  have h1 := Int.emod_nonneg a (show m ≠ 0 by omega)
  have h2 := Int.emod_lt_of_pos a h
  rw [Int.tmod_eq_emod]
  split <;> omega
theorem modulo_eq (a m : Int) (h0 : 0 < m) (h1 : m ≤ 4000000000000000000) : (wrap64 (a.tmod m + m)).tmod m = a % m := by
  have hb := tmod_bd a m h0
  rw [IntWalk.wrap64_in _ (by omega), Int.tmod_eq_emod_of_nonneg (by omega)]
  rw [Int.add_emod_right, Int.tmod_eq_emod]
  split
  · simp
  · have : m.natAbs = m := by omega
    rw [this]; simp [Int.sub_emod_right]

/-- the residue of a power -/
def powM (a n p : Int) : Int := (a ^ n.toNat) % p
theorem powM_bd (a n p : Int) (h : 1 ≤ p) : 0 ≤ powM a n p ∧ powM a n p < p := ⟨Int.emod_nonneg _ (by omega), Int.emod_lt_of_pos _ (by omega)⟩
theorem pow_mod (a p : Int) (k : Nat) : (a % p) ^ k % p = a ^ k % p := by
  induction k with
  | zero => simp
  | succ k ih => rw [Int.pow_succ, Int.pow_succ, Int.mul_emod, ih, Int.emod_emod_of_dvd _ (Int.dvd_refl p), ← Int.mul_emod]
theorem pow_half (b : Int) (n : Int) (h : 0 < n) : b ^ n.toNat = (b * b) ^ (n / 2).toNat * (if n % 2 = 1 then b else 1) := by
  have e : n.toNat = 2 * (n / 2).toNat + (n % 2).toNat := by omega
  have e2 : (b * b) ^ (n / 2).toNat = b ^ (2 * (n / 2).toNat) := by
    rw [Int.pow_mul]; congr 1; rw [Int.pow_succ, Int.pow_succ]; simp
  rw [e2]
  rcases Int.emod_two_eq n with h2 | h2
  · rw [if_neg (by omega), Int.mul_one]; congr 1; omega
  · rw [if_pos h2, ← Int.pow_succ]; congr 1; omega
/-- the loop's law: what is kept -/
theorem pow_round (o b n p : Int) (h : 0 < n) :
    ((if n % 2 = 1 then o * b % p else o) * (b * b % p) ^ (n / 2).toNat) % p = (o * b ^ n.toNat) % p := by
  rw [pow_half b n h]
  have e : ∀ x : Int, (x * (b * b % p) ^ (n / 2).toNat) % p = (x * (b * b) ^ (n / 2).toNat) % p := fun x => by
    rw [Int.mul_emod, pow_mod, ← Int.mul_emod]
  split
  · rw [e, Int.mul_emod, Int.emod_emod_of_dvd _ (Int.dvd_refl p), ← Int.mul_emod]
    congr 1; rw [Int.mul_assoc, Int.mul_comm b]
  · rw [e, Int.mul_one]
def invM (a p : Int) : Int := powM a (p - 2) p
def symN (n p : Int) : Int := if n = p - 1 then -1 else n
def symS (a p : Int) : Int := symN (powM a ((p - 1) / 2) p) p
def symI (a p : Int) : Int := if powM a ((p - 1) / 2) p = 0 then 0 else if powM a ((p - 1) / 2) p = 1 then 1 else -1

/-- no number from 2 to the root divides n -/
def NoDiv (n : Int) : Prop := ∀ d : Int, 2 ≤ d → d * d ≤ n → n % d ≠ 0
open Classical in
noncomputable def primeB (n : Int) : Bool := decide (2 ≤ n ∧ NoDiv n)
theorem primeB_true {n : Int} (h : primeB n = true) : 2 ≤ n ∧ NoDiv n := by unfold primeB at h; simpa using h
theorem primeB_mk {n : Int} (h : 2 ≤ n) (h' : NoDiv n) : primeB n = true := by unfold primeB; simpa using ⟨h, h'⟩
theorem primeB_no {n d : Int} (h : 2 ≤ d) (h' : d * d ≤ n) (h2 : n % d = 0) : primeB n = false := by
  unfold primeB; simp; intro _ hn; exact absurd h2 (hn d h h')
theorem primeB_lt {n : Int} (h : n < 2) : primeB n = false := by
  unfold primeB; simp; intro h2; omega
theorem nodiv_of {n d : Int} (hd : 2 ≤ d) (h : ∀ c : Int, 2 ≤ c → c < d → n % c ≠ 0) (hdd : n < d * d) : NoDiv n := by
  intro c hc hcc
  by_cases hcd : c < d
  · exact h c hc hcd
  · exfalso
    have : d * d ≤ c * c := Int.mul_le_mul (by omega) (by omega) (by omega) (by omega)
    omega

end Go.Proofs.Ytcnfjapoopdiaaa
