/- Plain: the classes that are drawn, as codes (a sign and a set of primes): products, squarefree parts. -/
import Derived.Test.YtbmcabphjfpkhaaGreatFacPlain
namespace Go.Proofs.YtbmcabphjfpkhaaGreat

/-- the absolute value of a code: bits 0 to 6 for 2 3 5 7 11 13 17, bit 7 for 999983 -/
def cdN (x : Nat) : Nat := (1 + x % 2) * (1 + x / 2 % 2 * 2) * (1 + x / 4 % 2 * 4) * (1 + x / 8 % 2 * 6) * (1 + x / 16 % 2 * 10) * (1 + x / 32 % 2 * 12) * (1 + x / 64 % 2 * 16) * (1 + x / 128 % 2 * 999982)
/-- the number of a code: bit 8 is the sign -/
def cdV (x : Nat) : Int := if x / 256 % 2 = 1 then -(cdN x : Int) else (cdN x : Int)
def nAllP : Nat → (Nat → Bool) → Bool
  | 0, _ => true
  | n + 1, f => f n && nAllP n f
theorem nAllP_of {n : Nat} {f : Nat → Bool} (h : nAllP n f = true) : ∀ i, i < n → f i = true := by
  induction n with
  | zero => intro i hi; omega
  | succ n ih =>
    intro i hi
    unfold nAllP at h
    rw [Bool.and_eq_true] at h
    rcases Nat.lt_or_eq_of_le (Nat.le_of_lt_succ hi) with h1 | rfl
    · exact ih h.2 i h1
    · exact h.1
def cdPair (x y : Nat) : Bool := (cdN x / Nat.gcd (cdN x) (cdN y) * (cdN y / Nat.gcd (cdN x) (cdN y))).beq (cdN (Nat.xor x y))
def cdRow (x : Nat) : Bool := nAllP 256 (cdPair x)
/-! numbers whose parts stay small, so that both sides reckon their classes -/
def pcOk (n : Int) : Bool := (decide ((primesL n.natAbs).length ≤ 9) && ((primesL n.natAbs).all (fun p => decide (2 ≤ p) && decide (p ≤ 1000000)) && (List.range 10).all fun i => decide (-1000000 ≤ sqfF n ((primesL n.natAbs).take i) (sgn n)) && decide (sqfF n ((primesL n.natAbs).take i) (sgn n) ≤ 1000000))) &&
  (decide ((factL n.natAbs).length ≤ 9) && ((factL n.natAbs).all (fun p => decide (2 ≤ p.1) && decide (p.1 ≤ 1000000) && decide (1 ≤ p.2) && decide (p.2 ≤ 31)) && (List.range 10).all fun i => decide (-1000000 ≤ clsF ((factL n.natAbs).take i) (sgn n)) && decide (clsF ((factL n.natAbs).take i) (sgn n) ≤ 1000000)))
theorem pcOk_p {n : Int} (h : pcOk n = true) : (primesL n.natAbs).length ≤ 9 ∧ (∀ i, i < (primesL n.natAbs).length → 2 ≤ (primesL n.natAbs)[i]?.getD 0 ∧ (primesL n.natAbs)[i]?.getD 0 ≤ 1000000) ∧
    (∀ i, i ≤ (primesL n.natAbs).length → -1000000 ≤ sqfF n ((primesL n.natAbs).take i) (sgn n) ∧ sqfF n ((primesL n.natAbs).take i) (sgn n) ≤ 1000000) := by
  unfold pcOk at h
  rw [Bool.and_eq_true] at h
  have h := h.1
  simp only [Bool.and_eq_true, List.all_eq_true, decide_eq_true_eq] at h
  obtain ⟨h2, h3, h4⟩ := h
  refine ⟨h2, fun i hi => ?_, fun i hi => ?_⟩
  · rw [List.getElem?_eq_getElem hi]
    exact h3 _ (List.getElem_mem hi)
  · exact h4 i (by simp; omega)
theorem pcOk_f {n : Int} (h : pcOk n = true) : (factL n.natAbs).length ≤ 9 ∧ (∀ i (hi : i < (factL n.natAbs).length), (2 ≤ (factL n.natAbs)[i].1 ∧ (factL n.natAbs)[i].1 ≤ 1000000) ∧ 1 ≤ (factL n.natAbs)[i].2 ∧ (factL n.natAbs)[i].2 ≤ 31) ∧
    (∀ i, i ≤ (factL n.natAbs).length → -1000000 ≤ clsF ((factL n.natAbs).take i) (sgn n) ∧ clsF ((factL n.natAbs).take i) (sgn n) ≤ 1000000) := by
  unfold pcOk at h
  rw [Bool.and_eq_true] at h
  have h := h.2
  simp only [Bool.and_eq_true, List.all_eq_true, decide_eq_true_eq] at h
  obtain ⟨h2, h3, h4⟩ := h
  refine ⟨h2, fun i hi => ?_, fun i hi => h4 i (by simp; omega)⟩
  have := h3 _ (List.getElem_mem hi)
  exact ⟨⟨this.1.1.1, this.1.1.2⟩, this.1.2, this.2⟩
/-- a code's number is its own class, if it is not too large -/
def cdCls (x : Nat) : Bool := !(cdN x).ble 1000000 || (pcOk (cdV x) && (sqf (cdV x) == cdV x && cls (cdV x) == cdV x))
/-- the numbers that are no classes -/
def noCls (v : Int) : Bool := pcOk v && (!(sqf v == v) && !(cls v == v))
set_option maxRecDepth 100000
theorem cd_cls : nAllP 512 cdCls = true := by decide +kernel
theorem no_cls : (noCls 4 && (noCls 12 && noCls (-999999))) = true := by decide +kernel
theorem cd_rows : nAllP 256 cdRow = true := by decide +kernel
theorem cdN_pos (x : Nat) : 1 ≤ cdN x := by
  unfold cdN
  have h : ∀ a b : Nat, 1 ≤ a → 1 ≤ b → 1 ≤ a * b := fun a b ha hb => Nat.mul_pos ha hb
  repeat (first | (refine h _ _ ?_ ?_) | omega)
theorem cdN_low (x : Nat) : cdN x = cdN (x % 256) := by
  unfold cdN
  rw [show x % 256 % 2 = x % 2 by omega, show x % 256 / 2 % 2 = x / 2 % 2 by omega, show x % 256 / 4 % 2 = x / 4 % 2 by omega, show x % 256 / 8 % 2 = x / 8 % 2 by omega, show x % 256 / 16 % 2 = x / 16 % 2 by omega,
    show x % 256 / 32 % 2 = x / 32 % 2 by omega, show x % 256 / 64 % 2 = x / 64 % 2 by omega, show x % 256 / 128 % 2 = x / 128 % 2 by omega]
end Go.Proofs.YtbmcabphjfpkhaaGreat
