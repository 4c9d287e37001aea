/- Plain: the tables of all primes, looked through by the kernel: traces are small, twists have the opposite trace. -/
import Derived.Test.YtilgeeaobdebhaaTtb
import Derived.Test.YtilgeeaobdebhaaTwm
import Derived.Test.YtilgeeaobdebhaaCpl
namespace Go.Proofs.Ytilgeeaobdebhaa
open Go.RowKit

/-- the digit of a residue: 1 for 0, 2 for a square, 0 for another one -/
def dg (m v : Nat) : Nat := (m >>> (2 * v)) &&& 3
def sN (p m a b : Nat) : Nat → Nat
  | 0 => 0
  | k + 1 => sN p m a b k + dg m ((k * k * k + a * k + b) % p)
def chiOk (p m : Nat) : Bool := (List.range p).all fun v => (v ^ ((p - 1) / 2) % p == 0 && dg m v == 1) || (v ^ ((p - 1) / 2) % p == 1 && dg m v == 2) || (v ^ ((p - 1) / 2) % p == p - 1 && dg m v == 0)
def okN (p a b : Nat) : Bool := (4 * a * a * a + 27 * b * b) % p != 0
def hasse (p s : Nat) : Bool := decide ((p - s) * (p - s) + (s - p) * (s - p) ≤ 4 * p)
def curvesOk (p m d : Nat) : Bool := (List.range p).all fun a => (List.range p).all fun b => !okN p a b || (okN p (a * d * d % p) (b * d * d * d % p) && (sN p m a b p + sN p m (a * d * d % p) (b * d * d * d % p) p == 2 * p) && hasse p (sN p m a b p))
def injOk (p d : Nat) : Bool := (List.range p).all fun a => (List.range p).all fun b => a == b || ((a * d * d % p != b * d * d % p) && (a * d * d * d % p != b * d * d * d % p))
def tabAll (p m d : Nat) : Bool := chiOk p m && curvesOk p m d && injOk p d && nrN p == d
theorem all5 : tabAll 5 521 2 = true := by decide +kernel
theorem all7 : tabAll 7 553 3 = true := by decide +kernel
theorem all11 : tabAll 11 526985 2 = true := by decide +kernel
theorem all13 : tabAll 13 36176521 2 = true := by decide +kernel
theorem all17 : tabAll 17 10872291881 3 = true := by decide +kernel
theorem all19 : tabAll 19 42958629385 2 = true := by decide +kernel
theorem all23 : tabAll 23 146197324457 5 = true := by decide +kernel
theorem all29 : tabAll 29 147108067451382281 2 = true := by decide +kernel
theorem all31 : tabAll 31 146369883237157417 3 = true := by decide +kernel
theorem len5 : (tabL 5).length = 20 := by decide +kernel
theorem len7 : (tabL 7).length = 42 := by decide +kernel
theorem len11 : (tabL 11).length = 110 := by decide +kernel
theorem len13 : (tabL 13).length = 156 := by decide +kernel
theorem len17 : (tabL 17).length = 272 := by decide +kernel
theorem len19 : (tabL 19).length = 342 := by decide +kernel
theorem len23 : (tabL 23).length = 506 := by decide +kernel
theorem len29 : (tabL 29).length = 812 := by decide +kernel
theorem len31 : (tabL 31).length = 930 := by decide +kernel

theorem p_listB : ((List.range 32).all fun q => !primeN q || decide (q < 5) || q == 5 || q == 7 || q == 11 || q == 13 || q == 17 || q == 19 || q == 23 || q == 29 || q == 31) = true := by decide +kernel
theorem p_list (q : Nat) (h : q < 32) (hp : primeN q = true) (h5 : 5 ≤ q) : q = 5 ∨ q = 7 ∨ q = 11 ∨ q = 13 ∨ q = 17 ∨ q = 19 ∨ q = 23 ∨ q = 29 ∨ q = 31 := by
  have ha := List.all_eq_true.1 p_listB q (by simpa using h)
  rw [hp] at ha
  simp only [Bool.not_true, Bool.false_or, Bool.or_eq_true, decide_eq_true_eq, beq_iff_eq] at ha
  omega
theorem tab_cases {p : Int} (h : tabP p = true) : ∃ q m : Nat, p = (q : Int) ∧ 5 ≤ q ∧ q ≤ 31 ∧ tabAll q m (nrN q) = true ∧ (tabL q).length = q * (q - 1) := by
  obtain ⟨h5, h31, hp⟩ := tabP_of h
  obtain ⟨q, rfl⟩ := Int.eq_ofNat_of_zero_le (show 0 ≤ p by omega)
  have hn : ∀ m d, tabAll q m d = true → tabAll q m (nrN q) = true := fun m d hd => by
    have : nrN q = d := by unfold tabAll at hd; simp only [Bool.and_eq_true, beq_iff_eq] at hd; exact hd.2
    rw [this]; exact hd
  refine ⟨q, ?_⟩
  rcases p_list q (by omega) (primeN_of q hp (by omega)) (by omega) with rfl | rfl | rfl | rfl | rfl | rfl | rfl | rfl | rfl
  · exact ⟨_, rfl, by omega, by omega, hn _ _ all5, len5⟩
  · exact ⟨_, rfl, by omega, by omega, hn _ _ all7, len7⟩
  · exact ⟨_, rfl, by omega, by omega, hn _ _ all11, len11⟩
  · exact ⟨_, rfl, by omega, by omega, hn _ _ all13, len13⟩
  · exact ⟨_, rfl, by omega, by omega, hn _ _ all17, len17⟩
  · exact ⟨_, rfl, by omega, by omega, hn _ _ all19, len19⟩
  · exact ⟨_, rfl, by omega, by omega, hn _ _ all23, len23⟩
  · exact ⟨_, rfl, by omega, by omega, hn _ _ all29, len29⟩
  · exact ⟨_, rfl, by omega, by omega, hn _ _ all31, len31⟩
theorem sym_dg {q m v : Nat} (h : chiOk q m = true) (hq : 5 ≤ q) (hv : v < q) : symS (v : Int) q = (dg m v : Int) - 1 := by
  have ha := List.all_eq_true.1 h v (by simpa using hv)
  simp only [Bool.or_eq_true, Bool.and_eq_true, beq_iff_eq] at ha
  have hm := powM_nat v q
  unfold symS symN
  rw [hm]
  rcases ha with (⟨h1, h2⟩ | ⟨h1, h2⟩) | ⟨h1, h2⟩
  · rw [h1, h2, if_neg (by omega)]; rfl
  · rw [h1, h2, if_neg (by omega)]; rfl
  · rw [h1, h2, if_pos (by omega)]; rfl
theorem sum_sN {q m a b : Nat} (h : chiOk q m = true) (hq : 5 ≤ q) : ∀ k : Nat, sumTo a b q k = (sN q m a b k : Int) - k
  | 0 => rfl
  | k + 1 => by
    have e : fV a b k % q = (((k * k * k + a * k + b) % q : Nat) : Int) := by unfold fV; push_cast; rfl
    have e2 := symS_mod (fV a b k) q
    rw [e, sym_dg h hq (Nat.mod_lt _ (by omega))] at e2
    unfold sumTo sN
    rw [sum_sN h hq k, ← e2]
    push_cast
    omega
theorem tr_sN {q m a b : Nat} (h : chiOk q m = true) (hq : 5 ≤ q) : trV a b q = (q : Int) - sN q m a b q := by
  unfold trV cntV
  rw [show ((q : Int)).toNat = q by simp, sum_sN h hq q]
  omega
theorem ok_nat {q a b : Nat} : okC (q : Int) a b = okN q a b := by
  unfold okC okN disc
  have : (4 * (a : Int) * a * a + 27 * b * b) % q = (((4 * a * a * a + 27 * b * b) % q : Nat) : Int) := by push_cast; rfl
  rw [this]
  rcases Nat.eq_zero_or_pos ((4 * a * a * a + 27 * b * b) % q) with h | h
  · rw [h]; rfl
  · have h1 : ((((4 * a * a * a + 27 * b * b) % q : Nat) : Int) == 0) = false := by simpa using by omega
    have h2 : ((4 * a * a * a + 27 * b * b) % q != 0) = true := by simpa using by omega
    rw [h1, h2]; rfl
/-- what the kernel saw of one curve -/
theorem cv_facts {p A B : Int} (hp : tabP p = true) (hA : 0 ≤ A ∧ A ≤ p - 1) (hB : 0 ≤ B ∧ B ≤ p - 1) (hok : okC p A B = true) :
    okC p (twA p A) (twB p B) = true ∧ trV (twA p A) (twB p B) p = -trV A B p ∧ trV A B p * trV A B p ≤ 4 * p := by
  obtain ⟨q, m, rfl, h5, h31, hall, _⟩ := tab_cases hp
  obtain ⟨a, rfl⟩ := Int.eq_ofNat_of_zero_le hA.1
  obtain ⟨b, rfl⟩ := Int.eq_ofNat_of_zero_le hB.1
  unfold tabAll at hall
  simp only [Bool.and_eq_true] at hall
  obtain ⟨⟨⟨hc, hcv⟩, _⟩, _⟩ := hall
  have h1 := List.all_eq_true.1 (List.all_eq_true.1 hcv a (by simp; omega)) b (by simp; omega)
  rw [ok_nat] at hok
  rw [hok] at h1
  simp only [Bool.not_true, Bool.false_or, Bool.and_eq_true, beq_iff_eq] at h1
  obtain ⟨⟨h2, h3⟩, h4⟩ := h1
  have eA : twA (q : Int) a = ((a * nrN q * nrN q % q : Nat) : Int) := by unfold twA nr; simp
  have eB : twB (q : Int) b = ((b * nrN q * nrN q * nrN q % q : Nat) : Int) := by unfold twB nr; simp
  rw [eA, eB, ok_nat, tr_sN hc h5, tr_sN hc h5]
  refine ⟨h2, by omega, ?_⟩
  unfold hasse at h4
  simp only [decide_eq_true_eq] at h4
  generalize sN q m a b q = s at h4
  rcases Nat.le_total s q with hs | hs
  · have e : ((q : Int) - s) = ((q - s : Nat) : Int) := by omega
    have e0 : s - q = 0 := by omega
    rw [e0] at h4
    rw [e]
    have : (((q - s) * (q - s) : Nat) : Int) ≤ ((4 * q : Nat) : Int) := by exact_mod_cast (by omega)
    push_cast at this ⊢
    exact this
  · have e : ((q : Int) - s) = -((s - q : Nat) : Int) := by omega
    have e0 : q - s = 0 := by omega
    rw [e0] at h4
    rw [e, Int.neg_mul_neg]
    have : (((s - q) * (s - q) : Nat) : Int) ≤ ((4 * q : Nat) : Int) := by exact_mod_cast (by omega)
    push_cast at this ⊢
    exact this
theorem tw_inj {p A B A' B' : Int} (hp : tabP p = true) (hA : 0 ≤ A ∧ A ≤ p - 1) (hB : 0 ≤ B ∧ B ≤ p - 1) (hA' : 0 ≤ A' ∧ A' ≤ p - 1) (hB' : 0 ≤ B' ∧ B' ≤ p - 1)
    (h1 : twA p A = twA p A') (h2 : twB p B = twB p B') : A = A' ∧ B = B' := by
  obtain ⟨q, m, rfl, h5, h31, hall, _⟩ := tab_cases hp
  obtain ⟨a, rfl⟩ := Int.eq_ofNat_of_zero_le hA.1
  obtain ⟨b, rfl⟩ := Int.eq_ofNat_of_zero_le hB.1
  obtain ⟨a', rfl⟩ := Int.eq_ofNat_of_zero_le hA'.1
  obtain ⟨b', rfl⟩ := Int.eq_ofNat_of_zero_le hB'.1
  unfold tabAll at hall
  simp only [Bool.and_eq_true] at hall
  obtain ⟨⟨_, hi⟩, _⟩ := hall
  have eA : ∀ a : Nat, twA (q : Int) a = ((a * nrN q * nrN q % q : Nat) : Int) := fun a => by unfold twA nr; simp
  have eB : ∀ b : Nat, twB (q : Int) b = ((b * nrN q * nrN q * nrN q % q : Nat) : Int) := fun b => by unfold twB nr; simp
  rw [eA, eA] at h1
  rw [eB, eB] at h2
  have j1 := List.all_eq_true.1 (List.all_eq_true.1 hi a (by simp; omega)) a' (by simp; omega)
  have j2 := List.all_eq_true.1 (List.all_eq_true.1 hi b (by simp; omega)) b' (by simp; omega)
  have k1 : a * nrN q * nrN q % q = a' * nrN q * nrN q % q := by exact_mod_cast h1
  have k2 : b * nrN q * nrN q * nrN q % q = b' * nrN q * nrN q * nrN q % q := by exact_mod_cast h2
  simp only [Bool.or_eq_true, beq_iff_eq, Bool.and_eq_true, bne_iff_ne, ne_eq, k1, k2, not_true, false_and, and_false, or_false] at j1 j2
  exact ⟨by omega, by omega⟩
end Go.Proofs.Ytilgeeaobdebhaa
