/- Plain: lists of prime factors with their exponents. -/
import Derived.Test.YtpnpidepkfnofaaGreatDoorSqfPlain
namespace Go.Proofs.YtpnpidepkfnofaaGreatDoor
open Go.RowKit

def divF : Nat → Int → Int → Int
  | 0, n, _ => n
  | k + 1, n, q => divF k (n / q) q
theorem valF_le : ∀ (f : Nat) (a p : Int), valF f a p ≤ f
  | 0, _, _ => by simp [valF]
  | f + 1, a, p => by
    unfold valF; split
    · have := valF_le f (a / p) p; omega
    · omega
theorem div_strip : ∀ (f : Nat) (n q : Int), divF (valF f n q).toNat n q = stripF f n q
  | 0, n, q => by simp [valF, divF, stripF]
  | f + 1, n, q => by
    unfold valF stripF; split
    · have h := valF_nonneg f (n / q) q
      rw [show (1 + valF f (n / q) q).toNat = (valF f (n / q) q).toNat + 1 by omega]
      exact div_strip f (n / q) q
    · simp [divF]
theorem div_strip' {n q : Int} (hn : 0 ≤ n) : divF (val n q).toNat n q = strip n q := by
  unfold val strip
  rw [show n.natAbs = n.toNat by omega]; exact div_strip _ _ _
theorem val_pos {n q : Int} (hn : 1 ≤ n) (h : n % q = 0) : 1 ≤ val n q := by
  unfold val
  obtain ⟨k, hk⟩ : ∃ k, n.natAbs = k + 1 := ⟨n.natAbs - 1, by omega⟩
  rw [hk, valF_yes _ h]
  have := valF_nonneg k (n / q) q; omega
theorem val_zero {n q : Int} (h : n % q ≠ 0) : val n q = 0 := valF_no _ h

def factF : Nat → Int → Int → List (Int × Int)
  | 0, _, _ => []
  | f + 1, n, p => if 1 < n then (if n < p * p then [(n, val n n)] else (if n % p = 0 then (p, val n p) :: factF f (strip n p) (p + 1) else factF f n (p + 1))) else []
def factL (n : Int) : List (Int × Int) := factF (2 * n.toNat) n 2
theorem factF_one (f : Nat) {n p : Int} (h : n ≤ 1) : factF f n p = [] := by cases f <;> simp [factF]; intro h'; omega
theorem factF_big (f : Nat) {n p : Int} (h : 1 < n) (h1 : n < p * p) : factF (f + 1) n p = [(n, val n n)] := by simp [factF, h, h1]
theorem factF_yes (f : Nat) {n p : Int} (h : 1 < n) (h1 : ¬ n < p * p) (h2 : n % p = 0) : factF (f + 1) n p = (p, val n p) :: factF f (strip n p) (p + 1) := by simp [factF, h, h1, h2]
theorem factF_no (f : Nat) {n p : Int} (h : 1 < n) (h1 : ¬ n < p * p) (h2 : n % p ≠ 0) : factF (f + 1) n p = factF f n (p + 1) := by simp [factF, h, h1, h2]

def clsF (l : List (Int × Int)) (o : Int) : Int := l.foldl (fun o f => if f.2 % 2 = 1 then o * f.1 else o) o
theorem clsF_take (l : List (Int × Int)) (o : Int) {i : Nat} (h : i < l.length) : clsF (l.take (i + 1)) o = if (l[i].2) % 2 = 1 then clsF (l.take i) o * l[i].1 else clsF (l.take i) o := by
  unfold clsF
  rw [List.take_add_one, List.getElem?_eq_getElem h, List.foldl_append]; simp
def cls (n : Int) : Int := clsF (factL n.natAbs) (if 0 < n then 1 else if n < 0 then -1 else 0)
def clsOk (n : Int) : Bool := decide ((factL n.natAbs).length ≤ 5) && (factL n.natAbs).all (fun p => decide (2 ≤ p.1) && decide (p.1 ≤ 31) && decide (1 ≤ p.2) && decide (p.2 ≤ 31)) && (List.range 6).all fun i => decide (-31 ≤ clsF ((factL n.natAbs).take i) (if 0 < n then 1 else if n < 0 then -1 else 0)) && decide (clsF ((factL n.natAbs).take i) (if 0 < n then 1 else if n < 0 then -1 else 0) ≤ 31)
theorem cls_all : ∀ k : Nat, k < 63 → clsOk ((k : Int) - 31) = true := by decide +kernel
theorem cls_small {n : Int} (h : -31 ≤ n) (h1 : n ≤ 31) : (factL n.natAbs).length ≤ 5 ∧ (∀ i (hi : i < (factL n.natAbs).length), (2 ≤ (factL n.natAbs)[i].1 ∧ (factL n.natAbs)[i].1 ≤ 31) ∧ 1 ≤ (factL n.natAbs)[i].2 ∧ (factL n.natAbs)[i].2 ≤ 31) ∧
    (∀ i, i ≤ (factL n.natAbs).length → -31 ≤ clsF ((factL n.natAbs).take i) (if 0 < n then 1 else if n < 0 then -1 else 0) ∧ clsF ((factL n.natAbs).take i) (if 0 < n then 1 else if n < 0 then -1 else 0) ≤ 31) := by
  have := cls_all (n + 31).toNat (by omega)
  have e : ((n + 31).toNat : Int) - 31 = n := by omega
  rw [e] at this
  unfold clsOk at this
  simp only [Bool.and_eq_true, List.all_eq_true, decide_eq_true_eq] at this
  obtain ⟨⟨h2, h3⟩, h4⟩ := this
  refine ⟨h2, fun i hi => ?_, fun i hi => h4 i (by simp; omega)⟩
  have := h3 _ (List.getElem_mem hi)
  exact ⟨this.1.1, this.1.2, this.2⟩
theorem cls_sqf : ∀ k : Nat, k < 63 → (cls ((k : Int) - 31) = sqf ((k : Int) - 31) ∨ (k : Int) - 31 = 0) := by decide +kernel
theorem cls_eq {n : Int} (h0 : n ≠ 0) (h : -31 ≤ n) (h1 : n ≤ 31) : cls n = sqf n := by
  have := cls_sqf (n + 31).toNat (by omega)
  have e : ((n + 31).toNat : Int) - 31 = n := by omega
  rw [e] at this
  omega
end Go.Proofs.YtpnpidepkfnofaaGreatDoor
