/- Plain: valuations, prime lists, square-free parts: the loops' mirrors. -/
import Derived.Test.YtpnpidepkfnofaaGreatDoorPlain
namespace Go.Proofs.YtpnpidepkfnofaaGreatDoor
open Go.RowKit

def valF : Nat → Int → Int → Int
  | 0, _, _ => 0
  | f + 1, a, p => if a % p = 0 then 1 + valF f (a / p) p else 0
def val (a p : Int) : Int := valF a.natAbs a p

theorem div_facts {a p : Int} (ha : a ≠ 0) (hp : 2 ≤ p) (h : a % p = 0) : a.tmod p = 0 ∧ a.tdiv p = a / p ∧ a / p ≠ 0 ∧ (a / p).natAbs < a.natAbs := by
  have hd : p ∣ a := Int.dvd_of_emod_eq_zero h
  obtain ⟨c, rfl⟩ := hd
  have hc : c ≠ 0 := by rintro rfl; simp at ha
  have e : p * c / p = c := Int.mul_ediv_cancel_left c (by omega)
  refine ⟨Int.mul_tmod_right p c, ?_, by rw [e]; exact hc, ?_⟩
  · rw [e, Int.mul_tdiv_cancel_left c (by omega)]
  · rw [e, Int.natAbs_mul]
    have h1 : 2 ≤ p.natAbs := by omega
    have h2 : 1 ≤ c.natAbs := by omega
    have := Nat.mul_le_mul_right c.natAbs h1
    omega
theorem tmod_ne {a p : Int} (h : a % p ≠ 0) : a.tmod p ≠ 0 := fun e => h (Int.emod_eq_zero_of_dvd (Int.dvd_of_tmod_eq_zero e))
theorem valF_nonneg : ∀ (f : Nat) (a p : Int), 0 ≤ valF f a p
  | 0, _, _ => by simp [valF]
  | f + 1, a, p => by
    unfold valF; split
    · have := valF_nonneg f (a / p) p; omega
    · omega
theorem valF_yes (f : Nat) {a p : Int} (h : a % p = 0) : valF (f + 1) a p = 1 + valF f (a / p) p := by simp [valF, h]
theorem valF_no (f : Nat) {a p : Int} (h : a % p ≠ 0) : valF f a p = 0 := by cases f <;> simp [valF, h]

def stripF : Nat → Int → Int → Int
  | 0, n, _ => n
  | f + 1, n, q => if n % q = 0 then stripF f (n / q) q else n
def strip (n q : Int) : Int := stripF n.toNat n q
theorem stripF_yes (f : Nat) {n q : Int} (h : n % q = 0) : stripF (f + 1) n q = stripF f (n / q) q := by simp [stripF, h]
theorem stripF_no (f : Nat) {n q : Int} (h : n % q ≠ 0) : stripF f n q = n := by cases f <;> simp [stripF, h]
theorem div_pos_facts {n q : Int} (hn : 1 ≤ n) (hq : 2 ≤ q) (h : n % q = 0) : 1 ≤ n / q ∧ n / q < n := by
  obtain ⟨c, rfl⟩ := Int.dvd_of_emod_eq_zero h
  have e : q * c / q = c := Int.mul_ediv_cancel_left c (by omega)
  have hc : 1 ≤ c := by
    rcases Int.lt_or_le c 1 with h' | h'
    · exfalso
      have := Int.mul_le_mul_of_nonneg_left (show c ≤ 0 by omega) (show 0 ≤ q by omega)
      simp at this; omega
    · exact h'
  rw [e]
  refine ⟨hc, ?_⟩
  have := Int.mul_le_mul_of_nonneg_right hq (show 0 ≤ c by omega)
  omega
theorem strip_bd : ∀ (f : Nat) (n q : Int), 1 ≤ n → 2 ≤ q → 1 ≤ stripF f n q ∧ stripF f n q ≤ n
  | 0, n, q, hn, _ => by simp [stripF]; exact hn
  | f + 1, n, q, hn, hq => by
    unfold stripF; split
    · next h =>
      have h1 := div_pos_facts hn hq h
      have := strip_bd f (n / q) q h1.1 hq
      omega
    · omega
theorem strip_self {n : Int} (hn : 2 ≤ n) : strip n n = 1 := by
  unfold strip
  obtain ⟨k, hk⟩ : ∃ k, n.toNat = k + 1 := ⟨n.toNat - 1, by omega⟩
  rw [hk, stripF_yes _ (Int.emod_self), Int.ediv_self (by omega), stripF_no _ (by rw [Int.emod_eq_of_lt (by omega) (by omega)]; omega)]

def primesF : Nat → Int → Int → List Int
  | 0, _, _ => []
  | f + 1, n, p => if 1 < n then (if n < p * p then [n] else (if n % p = 0 then p :: primesF f (strip n p) (p + 1) else primesF f n (p + 1))) else []
def primesL (n : Int) : List Int := primesF (2 * n.toNat) n 2
def msP (n p : Int) : Nat := if 1 < n then (n + n - p).toNat + 1 else 0
theorem primesF_one (f : Nat) {n p : Int} (h : n ≤ 1) : primesF f n p = [] := by cases f <;> simp [primesF]; intro h'; omega
theorem primesF_big (f : Nat) {n p : Int} (h : 1 < n) (h1 : n < p * p) : primesF (f + 1) n p = [n] := by simp [primesF, h, h1]
theorem primesF_yes (f : Nat) {n p : Int} (h : 1 < n) (h1 : ¬ n < p * p) (h2 : n % p = 0) : primesF (f + 1) n p = p :: primesF f (strip n p) (p + 1) := by simp [primesF, h, h1, h2]
theorem primesF_no (f : Nat) {n p : Int} (h : 1 < n) (h1 : ¬ n < p * p) (h2 : n % p ≠ 0) : primesF (f + 1) n p = primesF f n (p + 1) := by simp [primesF, h, h1, h2]
theorem root_bd {n p : Int} (hp : 2 ≤ p) (h : ¬ n < p * p) (hn : n ≤ 10000000000) : p ≤ 100000 ∧ p ≤ n := by
  constructor
  · rcases Int.lt_or_le 100000 p with h' | h'
    · exfalso
      have := Int.mul_le_mul (show (100001 : Int) ≤ p by omega) (show (100001 : Int) ≤ p by omega) (by omega) (by omega)
      omega
    · exact h'
  · have := Int.mul_le_mul_of_nonneg_right (show (1 : Int) ≤ p by omega) (show 0 ≤ p by omega)
    omega

def sqfF (n : Int) (l : List Int) (o : Int) : Int := l.foldl (fun o p => if val n p % 2 = 1 then o * p else o) o
/-- what squarefree gives -/
def sqf (n : Int) : Int := sqfF n (primesL n.natAbs) (if n < 0 then -1 else 1)
/-- what twFree gives -/
def FreeP (d : Int) : Prop := ∀ k : Int, 2 ≤ k → k * k ≤ d.natAbs → d % (k * k) ≠ 0
open Classical in
noncomputable def freeB (d : Int) : Bool := decide (FreeP d)
theorem freeB_no {d k : Int} (h : 2 ≤ k) (h1 : k * k ≤ d.natAbs) (h2 : d % (k * k) = 0) : freeB d = false := by
  unfold freeB; simp; intro hf; exact hf k h h1 h2
theorem freeB_yes {d k : Int} (h : ∀ c, 2 ≤ c → c < k → d % (c * c) ≠ 0) (h1 : d.natAbs < k * k) (hk : 2 ≤ k) : freeB d = true := by
  unfold freeB; simp; intro c hc hcc
  by_cases hlt : c < k
  · exact h c hc hlt
  · exfalso
    have := Int.mul_le_mul (show k ≤ c by omega) (show k ≤ c by omega) (by omega) (by omega)
    omega
/-! small numbers, reckoned -/
def free4 (d : Int) : Bool := (d % 4 != 0 || d.natAbs < 4) && (d % 9 != 0 || d.natAbs < 9) && (d % 16 != 0 || d.natAbs < 16) && (d % 25 != 0 || d.natAbs < 25)
theorem free_small {d : Int} (h : -31 ≤ d) (h1 : d ≤ 31) : freeB d = free4 d := by
  cases hf : free4 d
  · unfold free4 at hf
    simp only [Bool.and_eq_false_iff, Bool.or_eq_false_iff, bne_eq_false_iff_eq, decide_eq_false_iff_not] at hf
    rcases hf with ((h2 | h2) | h2) | h2
    · exact freeB_no (k := 2) (by omega) (by omega) h2.1
    · exact freeB_no (k := 3) (by omega) (by omega) h2.1
    · exact freeB_no (k := 4) (by omega) (by omega) h2.1
    · exact freeB_no (k := 5) (by omega) (by omega) h2.1
  · unfold free4 at hf
    simp only [Bool.and_eq_true, Bool.or_eq_true, bne_iff_ne, decide_eq_true_eq] at hf
    unfold freeB
    simp
    intro k hk hkk
    have : k < 6 := by
      rcases Int.lt_or_le k 6 with h' | h'
      · exact h'
      · exfalso
        have := Int.mul_le_mul h' h' (by omega) (by omega)
        omega
    rcases (by omega : k = 2 ∨ k = 3 ∨ k = 4 ∨ k = 5) with rfl | rfl | rfl | rfl <;> simp at hkk ⊢ <;> omega
theorem sqf_small : ∀ k : Nat, k < 63 → ((k : Int) - 31 = 0 ∨ (sqf ((k : Int) - 31) == (k : Int) - 31) = free4 ((k : Int) - 31)) := by decide +kernel
theorem sqf_eq {d : Int} (h0 : d ≠ 0) (h : -31 ≤ d) (h1 : d ≤ 31) : (sqf d == d) = freeB d := by
  rw [free_small h h1]
  have := sqf_small (d + 31).toNat (by omega)
  have e : ((d + 31).toNat : Int) - 31 = d := by omega
  rw [e] at this
  rcases this with h' | h'
  · exact absurd h' h0
  · exact h'
def sgn (n : Int) : Int := if n < 0 then -1 else 1
def partOk (n : Int) : Bool := decide ((primesL n.natAbs).length ≤ 5) && (primesL n.natAbs).all (fun p => decide (2 ≤ p) && decide (p ≤ 31)) && (List.range 6).all fun i => decide (-31 ≤ sqfF n ((primesL n.natAbs).take i) (sgn n)) && decide (sqfF n ((primesL n.natAbs).take i) (sgn n) ≤ 31)
theorem part_all : ∀ k : Nat, k < 63 → partOk ((k : Int) - 31) = true := by decide +kernel
theorem part_small {n : Int} (h : -31 ≤ n) (h1 : n ≤ 31) : (primesL n.natAbs).length ≤ 5 ∧ (∀ i, i < (primesL n.natAbs).length → 2 ≤ (primesL n.natAbs)[i]?.getD 0 ∧ (primesL n.natAbs)[i]?.getD 0 ≤ 31) ∧
    (∀ i, i ≤ (primesL n.natAbs).length → -31 ≤ sqfF n ((primesL n.natAbs).take i) (sgn n) ∧ sqfF n ((primesL n.natAbs).take i) (sgn n) ≤ 31) := by
  have := part_all (n + 31).toNat (by omega)
  have e : ((n + 31).toNat : Int) - 31 = n := by omega
  rw [e] at this
  unfold partOk at this
  simp only [Bool.and_eq_true, List.all_eq_true, decide_eq_true_eq] at this
  obtain ⟨⟨h2, h3⟩, h4⟩ := this
  refine ⟨h2, fun i hi => ?_, fun i hi => ?_⟩
  · rw [List.getElem?_eq_getElem hi]
    exact h3 _ (List.getElem_mem hi)
  · exact h4 i (by simp; omega)
theorem sqfF_take {n : Int} (l : List Int) (o : Int) {i : Nat} (h : i < l.length) : sqfF n (l.take (i + 1)) o = if val n (l[i]?.getD 0) % 2 = 1 then sqfF n (l.take i) o * (l[i]?.getD 0) else sqfF n (l.take i) o := by
  unfold sqfF
  rw [List.take_add_one, List.getElem?_eq_getElem h, List.foldl_append]; simp
end Go.Proofs.YtpnpidepkfnofaaGreatDoor
