/- Plain: products of classes by their codes. -/
import Derived.Test.YtbmcabphjfpkhaaGreatPcP
import Derived.Test.YtbmcabphjfpkhaaGreatFrac
namespace Go.Proofs.YtbmcabphjfpkhaaGreat

def pcV (d e : Int) : Int := d.tdiv (gcdI d e) * e.tdiv (gcdI d e)
theorem hi_xor (x y : Nat) : decide ((x ^^^ y) / 256 % 2 = 1) = (decide (x / 256 % 2 = 1) ^^ decide (y / 256 % 2 = 1)) := by
  have h := Nat.testBit_xor x y 8
  rw [Nat.testBit_eq_decide_div_mod_eq, Nat.testBit_eq_decide_div_mod_eq, Nat.testBit_eq_decide_div_mod_eq] at h
  exact h
theorem lo_xor (x y : Nat) : (x ^^^ y) % 256 = (x % 256) ^^^ (y % 256) := Nat.xor_mod_two_pow (n := 8)
theorem cdN_xor (x y : Nat) : cdN x / Nat.gcd (cdN x) (cdN y) * (cdN y / Nat.gcd (cdN x) (cdN y)) = cdN (x ^^^ y) := by
  rw [cdN_low x, cdN_low y, cdN_low (x ^^^ y), lo_xor]
  have h := nAllP_of (nAllP_of cd_rows (x % 256) (Nat.mod_lt _ (by omega))) (y % 256) (Nat.mod_lt _ (by omega))
  exact Nat.eq_of_beq_eq_true h
theorem gcd_ng (s t : Bool) (a b : Nat) : gcdI (if s then -(a : Int) else a) (if t then -(b : Int) else b) = (Nat.gcd a b : Nat) := by
  unfold gcdI
  cases s <;> cases t <;> simp [Int.gcd]
theorem cdV_eq (x : Nat) : cdV x = if decide (x / 256 % 2 = 1) then -(cdN x : Int) else cdN x := by unfold cdV; simp
theorem pc_cd (x y : Nat) : pcV (cdV x) (cdV y) = cdV (x ^^^ y) := by
  have h := cdN_xor x y
  unfold pcV
  rw [cdV_eq x, cdV_eq y, cdV_eq (x ^^^ y), gcd_ng, hi_xor, ← h]
  generalize cdN x = a, cdN y = b
  cases decide (x / 256 % 2 = 1) <;> cases decide (y / 256 % 2 = 1) <;> simp [Int.neg_tdiv, Int.natCast_mul, Int.mul_neg, Int.neg_mul]
theorem gcdP (x y : Nat) : 1 ≤ gcdI (cdV x) (cdV y) ∧ gcdI (cdV x) (cdV y) ≤ cdN x := by
  rw [cdV_eq x, cdV_eq y, gcd_ng]
  have h1 := Nat.gcd_pos_of_pos_left (cdN y) (cdN_pos x)
  have h2 := Nat.gcd_le_left (cdN y) (cdN_pos x)
  omega
end Go.Proofs.YtbmcabphjfpkhaaGreat
