/- Several texts joined: TabPlain SqfPlain FacPlain SmallPlain Sqf Twist StepPlain Cnt. -/
import Derived.Test.YtgjdgcmmlfmhmaaGreatDoorEuler
import Derived.Test.YtgjdgcmmlfmhmaaGreatDoorCong
import Derived.Test.YtgjdgcmmlfmhmaaGreatDoorTable
import Derived.Test.YtgjdgcmmlfmhmaaGreatDoorDivA
import Derived.Test.YtgjdgcmmlfmhmaaGreatDoorPlain
import Derived.Test.YtgjdgcmmlfmhmaaGreatDoorList
import Derived.Test.YtgjdgcmmlfmhmaaGreatDoorCurve
/- TabPlain -/
namespace Go.Proofs.YtgjdgcmmlfmhmaaGreatDoor
open Go.RowKit

def okC (p a b : Int) : Bool := !(disc a b % p == 0)
def rowTo (p a : Int) (k : Nat) : List (Int × Int) := ((List.range k).filter fun (b : Nat) => okC p a b).map fun (b : Nat) => (a, (b : Int))
theorem rowTo_succ (p a : Int) (k : Nat) : rowTo p a (k + 1) = if okC p a k = true then rowTo p a k ++ [(a, (k : Int))] else rowTo p a k := by
  unfold rowTo
  rw [List.range_succ, List.filter_append]
  cases h : okC p a k <;> simp [h]
def tabTo (p : Int) (k : Nat) : List (Int × Int) := (List.range k).flatMap fun (a : Nat) => rowTo p a p.toNat
theorem tabTo_succ (p : Int) (k : Nat) : tabTo p (k + 1) = tabTo p k ++ rowTo p k p.toNat := by
  unfold tabTo; rw [List.range_succ, List.flatMap_append]; simp
def tabL (p : Int) : List (Int × Int) := tabTo p p.toNat
theorem rowTo_len (p a : Int) (k : Nat) : (rowTo p a k).length ≤ k := by
  unfold rowTo
  rw [List.length_map]
  have := List.length_filter_le (fun b : Nat => okC p a b) (List.range k)
  simpa using this
theorem tabTo_len (p : Int) : ∀ k, (tabTo p k).length ≤ k * p.toNat
  | 0 => by simp [tabTo]
  | k + 1 => by
    rw [tabTo_succ, List.length_append]
    have := tabTo_len p k
    have := rowTo_len p k p.toNat
    rw [Nat.add_mul]; omega
theorem tabL_len {p : Int} (h : p ≤ 31) : (tabL p).length ≤ 961 := by
  have := tabTo_len p p.toNat
  have h2 : p.toNat * p.toNat ≤ 31 * 31 := Nat.mul_le_mul (by omega) (by omega)
  unfold tabL; omega
theorem tabL_mem {p : Int} {c : Int × Int} (h : c ∈ tabL p) : (0 ≤ c.1 ∧ c.1 ≤ p - 1) ∧ (0 ≤ c.2 ∧ c.2 ≤ p - 1) ∧ okC p c.1 c.2 = true := by
  unfold tabL tabTo rowTo at h
  simp only [List.mem_flatMap, List.mem_range, List.mem_map, List.mem_filter] at h
  obtain ⟨a, ha, b, ⟨hb, hok⟩, rfl⟩ := h
  exact ⟨⟨by simp, by simp; omega⟩, ⟨by simp, by simp; omega⟩, hok⟩
theorem tabB_ok {p a b : Int} (ht : tabP p = true) (ha : 0 ≤ a ∧ a ≤ p - 1) (hb : 0 ≤ b ∧ b ≤ p - 1) : tabB p a b = okC p a b := by
  unfold tabB okC
  rw [ht, inB_mk ha.1 ha.2, inB_mk hb.1 hb.2]; rfl
/-! counts -/
def sumTo (A B p : Int) : Nat → Int
  | 0 => 0
  | k + 1 => sumTo A B p k + symS (fV A B k) p
def cntV (A B p : Int) : Int := p + 1 + sumTo A B p p.toNat
theorem sym_bd (a p : Int) (h : primeB p = true) (h3 : 3 ≤ p) (h1 : p < 1000) : -1 ≤ symS a p ∧ symS a p ≤ 1 := by
  rw [← sym_eq a p h h3 h1]; unfold symI; split <;> (try split) <;> omega
theorem sumTo_bd (A B p : Int) (h : primeB p = true) (h3 : 3 ≤ p) (h1 : p < 1000) : ∀ k : Nat, -(k : Int) ≤ sumTo A B p k ∧ sumTo A B p k ≤ k
  | 0 => by simp [sumTo]
  | k + 1 => by
    have := sumTo_bd A B p h h3 h1 k
    have := sym_bd (fV A B k) p h h3 h1
    unfold sumTo; omega
theorem find_take {α : Type} (f : α → Bool) : ∀ (L : List α) (k : Nat) (h : k < L.length), (L.take k).find? f = none → f L[k] = true → L.find? f = some L[k]
  | x :: L, 0, _, _, hf => by simp at hf; simp [hf]
  | x :: L, k + 1, h, hn, hf => by
    rw [List.take_succ_cons] at hn
    cases hx : f x
    · rw [List.find?_cons, hx] at hn
      rw [List.find?_cons, hx]
      exact find_take f L k (by simpa using h) hn (by simpa using hf)
    · rw [List.find?_cons, hx] at hn; cases hn
theorem find_take_no {α : Type} (f : α → Bool) (L : List α) (k : Nat) (h : k < L.length) (hn : (L.take k).find? f = none) (hf : f L[k] = false) : (L.take (k + 1)).find? f = none := by
  rw [List.take_add_one, List.getElem?_eq_getElem h, List.find?_append, hn]
  simp [hf]
end Go.Proofs.YtgjdgcmmlfmhmaaGreatDoor

/- SqfPlain -/
namespace Go.Proofs.YtgjdgcmmlfmhmaaGreatDoor
open Go.RowKit

def valF : Nat → Int → Int → Int
  | 0, _, _ => 0
  | f + 1, a, p => if a % p = 0 then 1 + valF f (a / p) p else 0
def val (a p : Int) : Int := valF a.natAbs a p

theorem div_facts {a p : Int} (ha : a ≠ 0) (hp : 2 ≤ p) (h : a % p = 0) : a.tmod p = 0 ∧ a.tdiv p = a / p ∧ a / p ≠ 0 ∧ (a / p).natAbs < a.natAbs := by
  have hd : p ∣ a := Int.dvd_of_emod_eq_zero h
  obtain ⟨c, rfl⟩ := hd
  have hc : c ≠ 0 := by rintro rfl; simp at ha
  have e : p * c / p = c := Int.mul_ediv_cancel_left c (by omega)
  refine ⟨Int.mul_tmod_right p c, ?_, by rw [e]; exact hc, ?_⟩
  · rw [e, Int.mul_tdiv_cancel_left c (by omega)]
  · rw [e, Int.natAbs_mul]
    have h1 : 2 ≤ p.natAbs := by omega
    have h2 : 1 ≤ c.natAbs := by omega
    have := Nat.mul_le_mul_right c.natAbs h1
    omega
theorem tmod_ne {a p : Int} (h : a % p ≠ 0) : a.tmod p ≠ 0 := fun e => h (Int.emod_eq_zero_of_dvd (Int.dvd_of_tmod_eq_zero e))
theorem valF_nonneg : ∀ (f : Nat) (a p : Int), 0 ≤ valF f a p
  | 0, _, _ => by simp [valF]
  | f + 1, a, p => by
    unfold valF; split
    · have := valF_nonneg f (a / p) p; omega
    · omega
theorem valF_yes (f : Nat) {a p : Int} (h : a % p = 0) : valF (f + 1) a p = 1 + valF f (a / p) p := by simp [valF, h]
theorem valF_no (f : Nat) {a p : Int} (h : a % p ≠ 0) : valF f a p = 0 := by cases f <;> simp [valF, h]

def stripF : Nat → Int → Int → Int
  | 0, n, _ => n
  | f + 1, n, q => if n % q = 0 then stripF f (n / q) q else n
def strip (n q : Int) : Int := stripF n.toNat n q
theorem stripF_yes (f : Nat) {n q : Int} (h : n % q = 0) : stripF (f + 1) n q = stripF f (n / q) q := by simp [stripF, h]
theorem stripF_no (f : Nat) {n q : Int} (h : n % q ≠ 0) : stripF f n q = n := by cases f <;> simp [stripF, h]
theorem div_pos_facts {n q : Int} (hn : 1 ≤ n) (hq : 2 ≤ q) (h : n % q = 0) : 1 ≤ n / q ∧ n / q < n := by
  obtain ⟨c, rfl⟩ := Int.dvd_of_emod_eq_zero h
  have e : q * c / q = c := Int.mul_ediv_cancel_left c (by omega)
  have hc : 1 ≤ c := by
    rcases Int.lt_or_le c 1 with h' | h'
    · exfalso
      have := Int.mul_le_mul_of_nonneg_left (show c ≤ 0 by omega) (show 0 ≤ q by omega)
      simp at this; omega
    · exact h'
  rw [e]
  refine ⟨hc, ?_⟩
  have := Int.mul_le_mul_of_nonneg_right hq (show 0 ≤ c by omega)
  omega
theorem strip_bd : ∀ (f : Nat) (n q : Int), 1 ≤ n → 2 ≤ q → 1 ≤ stripF f n q ∧ stripF f n q ≤ n
  | 0, n, q, hn, _ => by simp [stripF]; exact hn
  | f + 1, n, q, hn, hq => by
    unfold stripF; split
    · next h =>
      have h1 := div_pos_facts hn hq h
      have := strip_bd f (n / q) q h1.1 hq
      omega
    · omega
theorem strip_self {n : Int} (hn : 2 ≤ n) : strip n n = 1 := by
  unfold strip
  obtain ⟨k, hk⟩ : ∃ k, n.toNat = k + 1 := ⟨n.toNat - 1, by omega⟩
  rw [hk, stripF_yes _ (Int.emod_self), Int.ediv_self (by omega), stripF_no _ (by rw [Int.emod_eq_of_lt (by omega) (by omega)]; omega)]

def primesF : Nat → Int → Int → List Int
  | 0, _, _ => []
  | f + 1, n, p => if 1 < n then (if n < p * p then [n] else (if n % p = 0 then p :: primesF f (strip n p) (p + 1) else primesF f n (p + 1))) else []
def primesL (n : Int) : List Int := primesF (2 * n.toNat) n 2
def msP (n p : Int) : Nat := if 1 < n then (n + n - p).toNat + 1 else 0
theorem primesF_one (f : Nat) {n p : Int} (h : n ≤ 1) : primesF f n p = [] := by cases f <;> simp [primesF]; intro h'; omega
theorem primesF_big (f : Nat) {n p : Int} (h : 1 < n) (h1 : n < p * p) : primesF (f + 1) n p = [n] := by simp [primesF, h, h1]
theorem primesF_yes (f : Nat) {n p : Int} (h : 1 < n) (h1 : ¬ n < p * p) (h2 : n % p = 0) : primesF (f + 1) n p = p :: primesF f (strip n p) (p + 1) := by simp [primesF, h, h1, h2]
theorem primesF_no (f : Nat) {n p : Int} (h : 1 < n) (h1 : ¬ n < p * p) (h2 : n % p ≠ 0) : primesF (f + 1) n p = primesF f n (p + 1) := by simp [primesF, h, h1, h2]
theorem root_bd {n p : Int} (hp : 2 ≤ p) (h : ¬ n < p * p) (hn : n ≤ 10000000000) : p ≤ 100000 ∧ p ≤ n := by
  constructor
  · rcases Int.lt_or_le 100000 p with h' | h'
    · exfalso
      have := Int.mul_le_mul (show (100001 : Int) ≤ p by omega) (show (100001 : Int) ≤ p by omega) (by omega) (by omega)
      omega
    · exact h'
  · have := Int.mul_le_mul_of_nonneg_right (show (1 : Int) ≤ p by omega) (show 0 ≤ p by omega)
    omega

def sqfF (n : Int) (l : List Int) (o : Int) : Int := l.foldl (fun o p => if val n p % 2 = 1 then o * p else o) o
/-- what squarefree gives -/
def sqf (n : Int) : Int := sqfF n (primesL n.natAbs) (if n < 0 then -1 else 1)
/-- what twFree gives -/
def FreeP (d : Int) : Prop := ∀ k : Int, 2 ≤ k → k * k ≤ d.natAbs → d % (k * k) ≠ 0
open Classical in
noncomputable def freeB (d : Int) : Bool := decide (FreeP d)
theorem freeB_no {d k : Int} (h : 2 ≤ k) (h1 : k * k ≤ d.natAbs) (h2 : d % (k * k) = 0) : freeB d = false := by
  unfold freeB; simp; intro hf; exact hf k h h1 h2
theorem freeB_yes {d k : Int} (h : ∀ c, 2 ≤ c → c < k → d % (c * c) ≠ 0) (h1 : d.natAbs < k * k) (hk : 2 ≤ k) : freeB d = true := by
  unfold freeB; simp; intro c hc hcc
  by_cases hlt : c < k
  · exact h c hc hlt
  · exfalso
    have := Int.mul_le_mul (show k ≤ c by omega) (show k ≤ c by omega) (by omega) (by omega)
    omega
/-! small numbers, reckoned -/
def free4 (d : Int) : Bool := (d % 4 != 0 || d.natAbs < 4) && (d % 9 != 0 || d.natAbs < 9) && (d % 16 != 0 || d.natAbs < 16) && (d % 25 != 0 || d.natAbs < 25)
theorem free_small {d : Int} (h : -31 ≤ d) (h1 : d ≤ 31) : freeB d = free4 d := by
  cases hf : free4 d
  · unfold free4 at hf
    simp only [Bool.and_eq_false_iff, Bool.or_eq_false_iff, bne_eq_false_iff_eq, decide_eq_false_iff_not] at hf
    rcases hf with ((h2 | h2) | h2) | h2
    · exact freeB_no (k := 2) (by omega) (by omega) h2.1
    · exact freeB_no (k := 3) (by omega) (by omega) h2.1
    · exact freeB_no (k := 4) (by omega) (by omega) h2.1
    · exact freeB_no (k := 5) (by omega) (by omega) h2.1
  · unfold free4 at hf
    simp only [Bool.and_eq_true, Bool.or_eq_true, bne_iff_ne, decide_eq_true_eq] at hf
    unfold freeB
    simp
    intro k hk hkk
    have : k < 6 := by
      rcases Int.lt_or_le k 6 with h' | h'
      · exact h'
      · exfalso
        have := Int.mul_le_mul h' h' (by omega) (by omega)
        omega
    rcases (by omega : k = 2 ∨ k = 3 ∨ k = 4 ∨ k = 5) with rfl | rfl | rfl | rfl <;> simp at hkk ⊢ <;> omega
theorem sqf_small : ∀ k : Nat, k < 63 → ((k : Int) - 31 = 0 ∨ (sqf ((k : Int) - 31) == (k : Int) - 31) = free4 ((k : Int) - 31)) := by decide +kernel
theorem sqf_eq {d : Int} (h0 : d ≠ 0) (h : -31 ≤ d) (h1 : d ≤ 31) : (sqf d == d) = freeB d := by
  rw [free_small h h1]
  have := sqf_small (d + 31).toNat (by omega)
  have e : ((d + 31).toNat : Int) - 31 = d := by omega
  rw [e] at this
  rcases this with h' | h'
  · exact absurd h' h0
  · exact h'
def sgn (n : Int) : Int := if n < 0 then -1 else 1
def partOk (n : Int) : Bool := decide ((primesL n.natAbs).length ≤ 5) && (primesL n.natAbs).all (fun p => decide (2 ≤ p) && decide (p ≤ 31)) && (List.range 6).all fun i => decide (-31 ≤ sqfF n ((primesL n.natAbs).take i) (sgn n)) && decide (sqfF n ((primesL n.natAbs).take i) (sgn n) ≤ 31)
theorem part_all : ∀ k : Nat, k < 63 → partOk ((k : Int) - 31) = true := by decide +kernel
theorem part_small {n : Int} (h : -31 ≤ n) (h1 : n ≤ 31) : (primesL n.natAbs).length ≤ 5 ∧ (∀ i, i < (primesL n.natAbs).length → 2 ≤ (primesL n.natAbs)[i]?.getD 0 ∧ (primesL n.natAbs)[i]?.getD 0 ≤ 31) ∧
    (∀ i, i ≤ (primesL n.natAbs).length → -31 ≤ sqfF n ((primesL n.natAbs).take i) (sgn n) ∧ sqfF n ((primesL n.natAbs).take i) (sgn n) ≤ 31) := by
  have := part_all (n + 31).toNat (by omega)
  have e : ((n + 31).toNat : Int) - 31 = n := by omega
  rw [e] at this
  unfold partOk at this
  simp only [Bool.and_eq_true, List.all_eq_true, decide_eq_true_eq] at this
  obtain ⟨⟨h2, h3⟩, h4⟩ := this
  refine ⟨h2, fun i hi => ?_, fun i hi => ?_⟩
  · rw [List.getElem?_eq_getElem hi]
    exact h3 _ (List.getElem_mem hi)
  · exact h4 i (by simp; omega)
theorem sqfF_take {n : Int} (l : List Int) (o : Int) {i : Nat} (h : i < l.length) : sqfF n (l.take (i + 1)) o = if val n (l[i]?.getD 0) % 2 = 1 then sqfF n (l.take i) o * (l[i]?.getD 0) else sqfF n (l.take i) o := by
  unfold sqfF
  rw [List.take_add_one, List.getElem?_eq_getElem h, List.foldl_append]; simp
end Go.Proofs.YtgjdgcmmlfmhmaaGreatDoor

/- FacPlain -/
namespace Go.Proofs.YtgjdgcmmlfmhmaaGreatDoor
open Go.RowKit

def divF : Nat → Int → Int → Int
  | 0, n, _ => n
  | k + 1, n, q => divF k (n / q) q
theorem valF_le : ∀ (f : Nat) (a p : Int), valF f a p ≤ f
  | 0, _, _ => by simp [valF]
  | f + 1, a, p => by
    unfold valF; split
    · have := valF_le f (a / p) p; omega
    · omega
theorem div_strip : ∀ (f : Nat) (n q : Int), divF (valF f n q).toNat n q = stripF f n q
  | 0, n, q => by simp [valF, divF, stripF]
  | f + 1, n, q => by
    unfold valF stripF; split
    · have h := valF_nonneg f (n / q) q
      rw [show (1 + valF f (n / q) q).toNat = (valF f (n / q) q).toNat + 1 by omega]
      exact div_strip f (n / q) q
    · simp [divF]
theorem div_strip' {n q : Int} (hn : 0 ≤ n) : divF (val n q).toNat n q = strip n q := by
  unfold val strip
  rw [show n.natAbs = n.toNat by omega]; exact div_strip _ _ _
theorem val_pos {n q : Int} (hn : 1 ≤ n) (h : n % q = 0) : 1 ≤ val n q := by
  unfold val
  obtain ⟨k, hk⟩ : ∃ k, n.natAbs = k + 1 := ⟨n.natAbs - 1, by omega⟩
  rw [hk, valF_yes _ h]
  have := valF_nonneg k (n / q) q; omega
theorem val_zero {n q : Int} (h : n % q ≠ 0) : val n q = 0 := valF_no _ h

def factF : Nat → Int → Int → List (Int × Int)
  | 0, _, _ => []
  | f + 1, n, p => if 1 < n then (if n < p * p then [(n, val n n)] else (if n % p = 0 then (p, val n p) :: factF f (strip n p) (p + 1) else factF f n (p + 1))) else []
def factL (n : Int) : List (Int × Int) := factF (2 * n.toNat) n 2
theorem factF_one (f : Nat) {n p : Int} (h : n ≤ 1) : factF f n p = [] := by cases f <;> simp [factF]; intro h'; omega
theorem factF_big (f : Nat) {n p : Int} (h : 1 < n) (h1 : n < p * p) : factF (f + 1) n p = [(n, val n n)] := by simp [factF, h, h1]
theorem factF_yes (f : Nat) {n p : Int} (h : 1 < n) (h1 : ¬ n < p * p) (h2 : n % p = 0) : factF (f + 1) n p = (p, val n p) :: factF f (strip n p) (p + 1) := by simp [factF, h, h1, h2]
theorem factF_no (f : Nat) {n p : Int} (h : 1 < n) (h1 : ¬ n < p * p) (h2 : n % p ≠ 0) : factF (f + 1) n p = factF f n (p + 1) := by simp [factF, h, h1, h2]

def clsF (l : List (Int × Int)) (o : Int) : Int := l.foldl (fun o f => if f.2 % 2 = 1 then o * f.1 else o) o
theorem clsF_take (l : List (Int × Int)) (o : Int) {i : Nat} (h : i < l.length) : clsF (l.take (i + 1)) o = if (l[i].2) % 2 = 1 then clsF (l.take i) o * l[i].1 else clsF (l.take i) o := by
  unfold clsF
  rw [List.take_add_one, List.getElem?_eq_getElem h, List.foldl_append]; simp
def cls (n : Int) : Int := clsF (factL n.natAbs) (if 0 < n then 1 else if n < 0 then -1 else 0)
def clsOk (n : Int) : Bool := decide ((factL n.natAbs).length ≤ 5) && (factL n.natAbs).all (fun p => decide (2 ≤ p.1) && decide (p.1 ≤ 31) && decide (1 ≤ p.2) && decide (p.2 ≤ 31)) && (List.range 6).all fun i => decide (-31 ≤ clsF ((factL n.natAbs).take i) (if 0 < n then 1 else if n < 0 then -1 else 0)) && decide (clsF ((factL n.natAbs).take i) (if 0 < n then 1 else if n < 0 then -1 else 0) ≤ 31)
theorem cls_all : ∀ k : Nat, k < 63 → clsOk ((k : Int) - 31) = true := by decide +kernel
theorem cls_small {n : Int} (h : -31 ≤ n) (h1 : n ≤ 31) : (factL n.natAbs).length ≤ 5 ∧ (∀ i (hi : i < (factL n.natAbs).length), (2 ≤ (factL n.natAbs)[i].1 ∧ (factL n.natAbs)[i].1 ≤ 31) ∧ 1 ≤ (factL n.natAbs)[i].2 ∧ (factL n.natAbs)[i].2 ≤ 31) ∧
    (∀ i, i ≤ (factL n.natAbs).length → -31 ≤ clsF ((factL n.natAbs).take i) (if 0 < n then 1 else if n < 0 then -1 else 0) ∧ clsF ((factL n.natAbs).take i) (if 0 < n then 1 else if n < 0 then -1 else 0) ≤ 31) := by
  have := cls_all (n + 31).toNat (by omega)
  have e : ((n + 31).toNat : Int) - 31 = n := by omega
  rw [e] at this
  unfold clsOk at this
  simp only [Bool.and_eq_true, List.all_eq_true, decide_eq_true_eq] at this
  obtain ⟨⟨h2, h3⟩, h4⟩ := this
  refine ⟨h2, fun i hi => ?_, fun i hi => h4 i (by simp; omega)⟩
  have := h3 _ (List.getElem_mem hi)
  exact ⟨this.1.1, this.1.2, this.2⟩
theorem cls_sqf : ∀ k : Nat, k < 63 → (cls ((k : Int) - 31) = sqf ((k : Int) - 31) ∨ (k : Int) - 31 = 0) := by decide +kernel
theorem cls_eq {n : Int} (h0 : n ≠ 0) (h : -31 ≤ n) (h1 : n ≤ 31) : cls n = sqf n := by
  have := cls_sqf (n + 31).toNat (by omega)
  have e : ((n + 31).toNat : Int) - 31 = n := by omega
  rw [e] at this
  omega
end Go.Proofs.YtgjdgcmmlfmhmaaGreatDoor

/- SmallPlain -/
namespace Go.Proofs.YtgjdgcmmlfmhmaaGreatDoor
open Go.RowKit

def dvB (A B u : Int) : Bool := (A % (u * u * u * u) == 0) && (B % (u * u * u * u * u * u) == 0)
def bestF (A B : Int) : Nat → Int
  | 0 => 1
  | k + 1 => if dvB A B ((k : Int) + 2) = true then (k : Int) + 2 else bestF A B k
def smU (A B : Int) : Int := bestF A B 4
theorem bestF_bd (A B : Int) : ∀ k, 1 ≤ bestF A B k ∧ bestF A B k ≤ (k : Int) + 1
  | 0 => by simp [bestF]
  | k + 1 => by
    unfold bestF
    have := bestF_bd A B k
    split <;> omega
theorem dvB_one (A B : Int) : dvB A B 1 = true := by simp [dvB]
theorem bestF_dv (A B : Int) : ∀ k, dvB A B (bestF A B k) = true
  | 0 => by simp [bestF, dvB_one]
  | k + 1 => by
    unfold bestF
    split
    · assumption
    · exact bestF_dv A B k
theorem bestF_max (A B : Int) : ∀ (k : Nat) (u : Int), bestF A B k < u → u ≤ (k : Int) + 1 → dvB A B u = false
  | 0, u, h, h1 => by simp [bestF] at h; omega
  | k + 1, u, h, h1 => by
    unfold bestF at h
    by_cases hd : dvB A B ((k : Int) + 2) = true
    · rw [if_pos hd] at h; omega
    · rw [if_neg hd] at h
      by_cases hu : u = (k : Int) + 2
      · subst hu; simpa using hd
      · exact bestF_max A B k u h (by omega)
theorem mod_small {a m : Int} (h : a % m = 0) (hm : -m < a) (hm' : a < m) : a = 0 := by
  obtain ⟨c, rfl⟩ := Int.dvd_of_emod_eq_zero h
  have hm0 : 0 < m := by omega
  rcases Int.lt_trichotomy c 0 with h1 | h1 | h1
  · exfalso
    have := Int.mul_le_mul_of_nonneg_left (show c ≤ -1 by omega) (Int.le_of_lt hm0)
    rw [Int.mul_neg, Int.mul_one] at this
    omega
  · rw [h1, Int.mul_zero]
  · exfalso
    have := Int.mul_le_mul_of_nonneg_left (show 1 ≤ c by omega) (Int.le_of_lt hm0)
    rw [Int.mul_one] at this
    omega
theorem pow_ge {u : Int} (h : 6 ≤ u) (h1 : u ≤ 10) : (1296 ≤ u * u * u * u ∧ u * u * u * u ≤ 10000) ∧ 46656 ≤ u * u * u * u * u * u := by
  rcases (by omega : u = 6 ∨ u = 7 ∨ u = 8 ∨ u = 9 ∨ u = 10) with rfl | rfl | rfl | rfl | rfl <;> decide
/-- no greater number divides: a curve's coefficients are too small -/
theorem dvB_big {A B u : Int} (hA : -1000 ≤ A ∧ A ≤ 1000) (hB : -10000 ≤ B ∧ B ≤ 10000) (h0 : A ≠ 0 ∨ B ≠ 0) (h : 6 ≤ u) (h1 : u ≤ 10) : dvB A B u = false := by
  obtain ⟨⟨p1, _⟩, p2⟩ := pow_ge h h1
  cases hd : dvB A B u
  · rfl
  · exfalso
    unfold dvB at hd
    simp only [Bool.and_eq_true, beq_iff_eq] at hd
    have a0 := mod_small hd.1 (by omega) (by omega)
    have b0 := mod_small hd.2 (by omega) (by omega)
    omega
theorem smU_max {A B u : Int} (hA : -1000 ≤ A ∧ A ≤ 1000) (hB : -10000 ≤ B ∧ B ≤ 10000) (h0 : A ≠ 0 ∨ B ≠ 0) (h : smU A B < u) (h1 : u ≤ 10) : dvB A B u = false := by
  by_cases h5 : u ≤ 5
  · exact bestF_max A B 4 u h (by simpa using h5)
  · exact dvB_big hA hB h0 (by omega) h1
theorem smU_bd (A B : Int) : 1 ≤ smU A B ∧ smU A B ≤ 5 := by have := bestF_bd A B 4; unfold smU; simp at this; omega
theorem tmod_beq (a m : Int) : (a.tmod m == 0) = (a % m == 0) := by
  rw [Bool.eq_iff_iff]
  simp only [beq_iff_eq]
  exact ⟨fun h => Int.emod_eq_zero_of_dvd (Int.dvd_of_tmod_eq_zero h), fun h => Int.tmod_eq_zero_of_dvd (Int.dvd_of_emod_eq_zero h)⟩
theorem tdiv_eq {a m : Int} (h : a % m = 0) : a.tdiv m = a / m := by
  by_cases hm : m = 0
  · subst hm; simp
  · obtain ⟨c, rfl⟩ := Int.dvd_of_emod_eq_zero h
    rw [Int.mul_tdiv_cancel_left c hm, Int.mul_ediv_cancel_left c hm]
def sm4 (A u : Int) : Int := A / (u * u * u * u)
def sm6 (B u : Int) : Int := B / (u * u * u * u * u * u)

/-! logs -/
theorem strip_dvd : ∀ (f : Nat) (n q : Int), stripF f n q ∣ n
  | 0, n, q => by simp [stripF]
  | f + 1, n, q => by
    unfold stripF; split
    · next h =>
      have h1 := strip_dvd f (n / q) q
      have h2 : n / q ∣ n := ⟨q, by rw [Int.ediv_mul_cancel (Int.dvd_of_emod_eq_zero h)]⟩
      exact Int.dvd_trans h1 h2
    · exact Int.dvd_refl _
theorem strip_no : ∀ (f : Nat) (n q : Int), 1 ≤ n → 2 ≤ q → n.toNat ≤ f → stripF f n q % q ≠ 0
  | 0, n, q, hn, _, hf => by omega
  | f + 1, n, q, hn, hq, hf => by
    unfold stripF; split
    · next h =>
      have h1 := div_pos_facts hn hq h
      exact strip_no f (n / q) q h1.1 hq (by omega)
    · assumption
def NoSm (u p : Int) : Prop := ∀ d : Int, 2 ≤ d → d < p → u % d ≠ 0
theorem NoSm.two (u : Int) : NoSm u 2 := fun d h h' => by omega
theorem NoSm.le {u p : Int} (h : NoSm u p) (hu : 1 < u) : p ≤ u := by
  rcases Int.lt_or_le u p with h' | h'
  · exact absurd Int.emod_self (h u (by omega) h')
  · exact h'
theorem NoSm.step {u p : Int} (h : NoSm u p) (hu : 1 ≤ u) (hp : 2 ≤ p) : NoSm (strip u p) (p + 1) := fun d hd hdp => by
  by_cases e : d = p
  · rw [e]; exact strip_no _ _ _ hu hp (Nat.le_refl _)
  · intro h0
    exact h d hd (by omega) (Int.emod_eq_zero_of_dvd (Int.dvd_trans (Int.dvd_of_emod_eq_zero h0) (strip_dvd _ _ _)))
def slF : Nat → Int → Int → List (Int × Int)
  | 0, _, _ => []
  | f + 1, u, p => if 1 < u then List.replicate (val u p).toNat (1, p) ++ slF f (strip u p) (p + 1) else []
def slL (u : Int) : List (Int × Int) := slF 6 u 2
def spL (u : Int) : List (Int × Int) := (factL u).flatMap fun f => List.replicate f.2.toNat (1, f.1)
theorem sl_all : ∀ k : Nat, k < 6 → slL k = spL k := by decide +kernel
theorem sl_eq {u : Int} (h : 0 ≤ u) (h1 : u ≤ 5) : slL u = spL u := by
  have := sl_all u.toNat (by omega)
  rwa [show ((u.toNat : Nat) : Int) = u by omega] at this
theorem sl_len : ∀ k : Nat, k < 6 → (spL k).length ≤ 5 ∧ (factL k).length ≤ 5 ∧ (factL k).all (fun f => decide (1 ≤ f.2) && decide (f.2 ≤ 5) && decide (2 ≤ f.1) && decide (f.1 ≤ 5)) = true := by decide +kernel
theorem slF_one (f : Nat) {u p : Int} (h : u ≤ 1) : slF f u p = [] := by cases f <;> simp [slF]; intro h'; omega
end Go.Proofs.YtgjdgcmmlfmhmaaGreatDoor

/- Sqf -/
namespace Go.Proofs.YtgjdgcmmlfmhmaaGreatDoor
open Go.RowKit

theorem ms_big {n y p : Int} {f' : Nat} (h1 : 1 < n) (_hf : msP n p ≤ f' + 1) (e : y = strip n n) : msP y (n + 1) ≤ f' ∧ msP y (n + 1) < msP n p := by
  rw [strip_self (by omega)] at e
  subst e
  unfold msP
  rw [if_pos h1]; simp
theorem ms_small {n y p : Int} {f' : Nat} (h1 : 1 < n) (hp : p ≤ n) (hf : msP n p ≤ f' + 1) (hyn : y ≤ n) : msP y (p + 1) ≤ f' ∧ msP y (p + 1) < msP n p := by
  unfold msP at *
  rw [if_pos h1] at *
  split <;> omega
end Go.Proofs.YtgjdgcmmlfmhmaaGreatDoor

/- Twist -/
namespace Go.Proofs.YtgjdgcmmlfmhmaaGreatDoor
open Go.RowKit

noncomputable def twistB (d : Int) : Bool := inB d (-30) 30 && !(d == 0) && freeB d
noncomputable def stepB (k v : Int) : Bool := if k = 0 ∨ k = 1 then inB v 2 5 else if k = 2 ∨ k = 3 then twistB v && !(v == 1) else false
def maxI (a b : Int) : Int := if b < a then a else b
def signI (a : Int) : Int := if 0 < a then 1 else if a < 0 then -1 else 0
theorem maxI_abs (a : Int) : maxI a (-a) = a.natAbs := by unfold maxI; split <;> omega
theorem c_l1Most (a b : Int) (w : World) :
    Calls Tryz.prog 97 #[.int .i64 a, .int .i64 b] w fun e w' => e = .returned (.int .i64 (maxI a b)) ∧ w = w' := by
  unfold maxI
  by_cases h : b < a
  · rw [if_pos h]
    go_enter Tryz.func97, Tryz.ntmps97
    go_wp2
    go_ret
    exact ⟨rfl, rfl⟩
  · rw [if_neg h]
    go_enter Tryz.func97, Tryz.ntmps97
    go_wp2
    go_ret
    exact ⟨rfl, rfl⟩
theorem c_l1Abs (a : Int) (ha : -4000000000000000000 ≤ a ∧ a ≤ 4000000000000000000) (w : World) :
    Calls Tryz.prog 118 #[.int .i64 a] w fun e w' => e = .returned (.int .i64 a.natAbs) ∧ w = w' := by
  have H := Lib.hid (maxI_abs a)
  go_enter Tryz.func118, Tryz.ntmps118
  go_wp2_with ((go_at_call 97; refine (c_l1Most _ _ _).mono ?_; rintro e w' ⟨rfl, rfl⟩))
  go_ret
  exact ⟨by rw [← H.out]; rfl, rfl⟩
end Go.Proofs.YtgjdgcmmlfmhmaaGreatDoor

/- StepPlain -/
namespace Go.Proofs.YtgjdgcmmlfmhmaaGreatDoor
open Go.RowKit

def rs (o : Bool) (A : Int) : Int := if o then A else 0
def udB (A B v : Int) : Bool := (A % (v * v) == 0) && (B % (v * v * v) == 0)
def apOk (k A B v : Int) : Bool := if k = 0 then curveB (A * v * v * v * v) (B * v * v * v * v * v * v) else if k = 1 then dvB A B v else if k = 2 then curveB (A * v * v) (B * v * v * v) else udB A B v
def apA (k A v : Int) : Int := if k = 0 then A * v * v * v * v else if k = 1 then A / (v * v * v * v) else if k = 2 then A * v * v else A / (v * v)
def apB (k B v : Int) : Int := if k = 0 then B * v * v * v * v * v * v else if k = 1 then B / (v * v * v * v * v * v) else if k = 2 then B * v * v * v else B / (v * v * v)
theorem disc_scale (A B m n : Int) (h : m * m * m = n * n) : disc (A * m) (B * n) = m * m * m * disc A B := by
  unfold disc
  rw [Int.mul_add, show 4 * (A * m) * (A * m) * (A * m) = m * m * m * (4 * A * A * A) by ac_rfl, show 27 * (B * n) * (B * n) = n * n * (27 * B * B) by ac_rfl, h]
theorem inB_of {x a b : Int} (h : a ≤ x) (h' : x ≤ b) : inB x a b = true := by unfold inB; simp [h, h']
theorem div_in {x m b : Int} (hm : 0 < m) (hx : -b ≤ x ∧ x ≤ b) (hd : x % m = 0) : -b ≤ x / m ∧ x / m ≤ b := by
  obtain ⟨c, rfl⟩ := Int.dvd_of_emod_eq_zero hd
  rw [Int.mul_ediv_cancel_left c (by omega)]
  have h1 : c.natAbs ≤ (m * c).natAbs := by rw [Int.natAbs_mul]; exact Nat.le_mul_of_pos_left _ (by omega)
  omega
theorem divn_in {x m b : Int} (hm : m ≠ 0) (hx : -b ≤ x ∧ x ≤ b) (hd : x % m = 0) : -b ≤ x / m ∧ x / m ≤ b := by
  obtain ⟨c, rfl⟩ := Int.dvd_of_emod_eq_zero hd
  rw [Int.mul_ediv_cancel_left c hm]
  have h1 : c.natAbs ≤ (m * c).natAbs := by rw [Int.natAbs_mul]; exact Nat.le_mul_of_pos_left _ (by omega)
  omega
theorem curveB_div {A B m n : Int} (hm : m ≠ 0) (hn : n ≠ 0) (h : m * m * m = n * n) (hc : curveB A B = true) (hA : A % m = 0) (hB : B % n = 0) : curveB (A / m) (B / n) = true := by
  unfold curveB at hc ⊢
  simp only [Bool.and_eq_true, Bool.not_eq_true', beq_eq_false_iff_ne] at hc ⊢
  obtain ⟨⟨h1, h2⟩, h3⟩ := hc
  have a := divn_in hm (inB_true h1) hA
  have b := divn_in hn (inB_true h2) hB
  refine ⟨⟨inB_of a.1 a.2, inB_of b.1 b.2⟩, fun h0 => h3 ?_⟩
  have := disc_scale (A / m) (B / n) m n h
  rw [Int.ediv_mul_cancel (Int.dvd_of_emod_eq_zero hA), Int.ediv_mul_cancel (Int.dvd_of_emod_eq_zero hB), h0, Int.mul_zero] at this
  exact this
theorem curveB_dv {A B v : Int} (hv : v ≠ 0) (hc : curveB A B = true) (h : dvB A B v = true) : curveB (A / (v * v * v * v)) (B / (v * v * v * v * v * v)) = true := by
  unfold dvB at h
  simp only [Bool.and_eq_true, beq_iff_eq] at h
  refine curveB_div ?_ ?_ (by ac_rfl) hc h.1 h.2
  all_goals
    intro h0
    simp only [Int.mul_eq_zero] at h0
    omega
theorem curveB_ud {A B v : Int} (hv : v ≠ 0) (hc : curveB A B = true) (h : udB A B v = true) : curveB (A / (v * v)) (B / (v * v * v)) = true := by
  unfold udB at h
  simp only [Bool.and_eq_true, beq_iff_eq] at h
  refine curveB_div ?_ ?_ (by ac_rfl) hc h.1 h.2
  all_goals
    intro h0
    simp only [Int.mul_eq_zero] at h0
    omega
theorem curveB_of {A B : Int} (h : curveB A B = true) : (-1000 ≤ A ∧ A ≤ 1000) ∧ (-10000 ≤ B ∧ B ≤ 10000) := by
  unfold curveB at h
  simp only [Bool.and_eq_true] at h
  exact ⟨inB_true h.1.1, inB_true h.1.2⟩
theorem stepB_cases {k v : Int} (h : stepB k v = true) : (k = 0 ∧ inB v 2 5 = true) ∨ (k = 1 ∧ inB v 2 5 = true) ∨ (k = 2 ∧ twistB v = true ∧ v ≠ 1) ∨ (k = 3 ∧ twistB v = true ∧ v ≠ 1) := by
  unfold stepB at h
  by_cases h1 : k = 0 ∨ k = 1
  · rw [if_pos h1] at h
    rcases h1 with h1 | h1
    · exact .inl ⟨h1, h⟩
    · exact .inr (.inl ⟨h1, h⟩)
  · rw [if_neg h1] at h
    by_cases h2 : k = 2 ∨ k = 3
    · rw [if_pos h2] at h
      simp only [Bool.and_eq_true, Bool.not_eq_true', beq_eq_false_iff_ne] at h
      rcases h2 with h2 | h2
      · exact .inr (.inr (.inl ⟨h2, h⟩))
      · exact .inr (.inr (.inr ⟨h2, h⟩))
    · rw [if_neg h2] at h; cases h
theorem ap_curve {k A B v : Int} (hs : stepB k v = true) (hc : curveB A B = true) (ho : apOk k A B v = true) : curveB (apA k A v) (apB k B v) = true := by
  have tw0 : ∀ {v}, twistB v = true → v ≠ 0 := fun h => by unfold twistB at h; simp at h; exact h.1.2
  rcases stepB_cases hs with ⟨rfl, h⟩ | ⟨rfl, h⟩ | ⟨rfl, h, _⟩ | ⟨rfl, h, _⟩
  · exact ho
  · exact curveB_dv (by have := inB_true h; omega) hc ho
  · exact ho
  · exact curveB_ud (tw0 h) hc ho
end Go.Proofs.YtgjdgcmmlfmhmaaGreatDoor

/- Cnt -/
namespace Go.Proofs.YtgjdgcmmlfmhmaaGreatDoor
open Go.RowKit

theorem c_fmValue (A B p x : Int) (hA : -1000 ≤ A ∧ A ≤ 1000) (hB : -10000 ≤ B ∧ B ≤ 10000) (hp : 1 ≤ p ∧ p ≤ 1000) (hx : 0 ≤ x ∧ x ≤ 1000) (w : World) :
    Calls Tryz.prog 92 #[.agg #[.int .i64 A, .int .i64 B], .int .i64 p, .int .i64 x] w fun e w' => e = .returned (.int .i64 (fV A B x % p)) ∧ Below w.heap.size w w' := by
  obtain ⟨b1, b2, b3, b4, b5⟩ := fV_bd (p := p) hA hx hp
  go_enter Tryz.func92, Tryz.ntmps92
  go_wp2_with ((go_at_call 36; refine (c_mdMod _ _ (by omega) (by omega) _).mono ?_; rintro e w' ⟨rfl, rfl⟩))
  go_ret
  refine ⟨rfl, ?_⟩
  (repeat' (first | (with_reducible exact Below.refl _ _) | (with_reducible refine below_step (by assumption) ?_ ?_) | (with_reducible refine Below.alloc ?_ ?_ _) | (with_reducible refine Below.setCell ?_ ?_ _) | (with_reducible refine below_drewN ?_ _) | (with_reducible refine Below.drew ?_) | omega | (simp; omega) | (simp; done)))
def trV (A B p : Int) : Int := p + 1 - cntV A B p
theorem cntV_bd {A B p : Int} (hpr : primeB p = true) (hp : 3 ≤ p ∧ p ≤ 997) : 1 ≤ cntV A B p ∧ cntV A B p ≤ 2 * p + 1 := by
  have := sumTo_bd A B p hpr hp.1 (by omega) p.toNat
  unfold cntV
  omega
end Go.Proofs.YtgjdgcmmlfmhmaaGreatDoor
