/- Euler's law for the primes up to 997. -/
import Derived.Test.YtgjdgcmmlfmhmaaGreatDoorPlain
namespace Go.Proofs.YtgjdgcmmlfmhmaaGreatDoor
open Go.RowKit
/-! Euler's law for the primes up to 997, reckoned by the kernel -/
def primeN (p : Nat) : Bool := decide (2 ≤ p) && (List.range 32).all fun d => decide (d < 2) || decide (p < d * d) || decide (p % d ≠ 0)
def eulerAll (p : Nat) : Bool := !primeN p || decide (p < 3) || (List.range p).all fun a => (a ^ ((p - 1) / 2)) % p == 0 || (a ^ ((p - 1) / 2)) % p == 1 || (a ^ ((p - 1) / 2)) % p == p - 1
theorem euler_0 : (List.range 400).all eulerAll = true := by decide +kernel
theorem euler_1 : (List.range 250).all (fun k => eulerAll (k + 400)) = true := by decide +kernel
theorem euler_2 : (List.range 200).all (fun k => eulerAll (k + 650)) = true := by decide +kernel
theorem euler_3 : (List.range 150).all (fun k => eulerAll (k + 850)) = true := by decide +kernel
theorem euler_nat (p : Nat) (h : p < 1000) : eulerAll p = true := by
  by_cases h0 : p < 400
  · exact List.all_eq_true.1 euler_0 p (by simpa using h0)
  by_cases h1 : p < 650
  · have := List.all_eq_true.1 euler_1 (p - 400) (by simp; omega)
    rwa [show p - 400 + 400 = p by omega] at this
  by_cases h2 : p < 850
  · have := List.all_eq_true.1 euler_2 (p - 650) (by simp; omega)
    rwa [show p - 650 + 650 = p by omega] at this
  · have := List.all_eq_true.1 euler_3 (p - 850) (by simp; omega)
    rwa [show p - 850 + 850 = p by omega] at this
theorem primeN_of (p : Nat) (h : primeB p = true) (hl : p < 1000) : primeN p = true := by
  obtain ⟨h2, hn⟩ := primeB_true h
  unfold primeN
  rw [Bool.and_eq_true]
  refine ⟨by simpa using (by omega : 2 ≤ p), ?_⟩
  rw [List.all_eq_true]
  intro d hd
  by_cases hd2 : d < 2
  · simp [hd2]
  by_cases hdd : p < d * d
  · simp [hdd]
  · have h1 := hn d (by omega) (by
      have : ((d * d : Nat) : Int) ≤ (p : Nat) := by omega
      simpa using this)
    have h3 : p % d ≠ 0 := fun e => h1 (by
      have : ((p % d : Nat) : Int) = 0 := by omega
      simpa using this)
    simp [h3]
theorem euler (a p : Int) (h : primeB p = true) (h3 : 3 ≤ p) (h1 : p < 1000) :
    powM a ((p - 1) / 2) p = 0 ∨ powM a ((p - 1) / 2) p = 1 ∨ powM a ((p - 1) / 2) p = p - 1 := by
  obtain ⟨q, rfl⟩ := Int.eq_ofNat_of_zero_le (show 0 ≤ p by omega)
  obtain ⟨b, hb⟩ := Int.eq_ofNat_of_zero_le (Int.emod_nonneg a (show (q : Int) ≠ 0 by omega))
  have hlt := Int.emod_lt_of_pos a (show (0 : Int) < q by omega)
  have hp := primeN_of q h (by omega)
  have he := euler_nat q (by omega)
  unfold eulerAll at he
  rw [hp] at he
  have hq3 : ¬ q < 3 := by omega
  simp only [hq3, decide_false, Bool.not_true, Bool.false_or, Bool.or_false] at he
  have hb2 := List.all_eq_true.1 he b (by simp; omega)
  have e : powM a (((q : Int) - 1) / 2) q = ((b ^ ((q - 1) / 2) % q : Nat) : Int) := by
    unfold powM
    rw [← pow_mod, hb]
    have : (((q : Int) - 1) / 2).toNat = (q - 1) / 2 := by omega
    rw [this]; simp
  rw [e]
  simp only [Bool.or_eq_true, beq_iff_eq] at hb2
  omega
theorem sym_eq (a p : Int) (h : primeB p = true) (h3 : 3 ≤ p) (h1 : p < 1000) : symI a p = symS a p := by
  unfold symI symS symN
  rcases euler a p h h3 h1 with e | e | e <;> rw [e]
  · rw [if_pos rfl, if_neg (by omega)]
  · rw [if_neg (by omega), if_pos rfl, if_neg (by omega)]
  · rw [if_neg (by omega), if_neg (by omega), if_pos rfl]
end Go.Proofs.YtgjdgcmmlfmhmaaGreatDoor
