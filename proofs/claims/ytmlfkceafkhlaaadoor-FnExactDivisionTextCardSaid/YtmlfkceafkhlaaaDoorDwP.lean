/- Plain: division values as integers, and how many digits they have. -/
import Derived.Test.YtmlfkceafkhlaaaDoorBgP
import Derived.Test.YtmlfkceafkhlaaaDoorDvPlain
namespace Go.Proofs.YtmlfkceafkhlaaaDoor

/-- fewer than n digits to the base -/
def Sz (n : Nat) (x : Int) : Prop := x.natAbs < 10000 ^ n
theorem Sz.mono {m n : Nat} {x : Int} (h : Sz m x) (hn : m ≤ n) : Sz n x := Nat.lt_of_lt_of_le h (Nat.pow_le_pow_right (by omega) hn)
theorem Sz.mul {m n : Nat} {x y : Int} (h : Sz m x) (k : Sz n y) : Sz (m + n) (x * y) := by
  unfold Sz at *
  rw [Int.natAbs_mul, Nat.pow_add]
  exact Nat.mul_lt_mul'' h k
theorem Sz.add {n : Nat} {x y : Int} (h : Sz n x) (k : Sz n y) : Sz (n + 1) (x + y) := by
  unfold Sz at *
  rw [Nat.pow_succ]
  generalize 10000 ^ n = P at *
  omega
theorem Sz.neg {n : Nat} {x : Int} (h : Sz n x) : Sz n (-x) := by
  unfold Sz at *
  omega
theorem Sz.sub {n : Nat} {x y : Int} (h : Sz n x) (k : Sz n y) : Sz (n + 1) (x - y) := Int.sub_eq_add_neg ▸ h.add k.neg
theorem Sz.len {n : Nat} {x : Int} (h : Sz n x) : (dg x.natAbs).length ≤ n := dg_len h
theorem Sz.of1 {x : Int} (h : -10000 < x) (k : x < 10000) : Sz 1 x := by
  show x.natAbs < 10000 ^ 1
  omega
theorem Sz.of4 {x : Int} (h : -10000000000000000 < x) (k : x < 10000000000000000) : Sz 4 x := by
  show x.natAbs < 10000 ^ 4
  omega
theorem Sz.of5 {x : Int} (h : -100000000000000000000 < x) (k : x < 100000000000000000000) : Sz 5 x := by
  show x.natAbs < 10000 ^ 5
  omega
/-- the k-th value out of those before it -/
def dwN (g : Int) (xs : List Int) (k : Nat) : Int :=
  if k % 2 = 0 then eat xs (k / 2) * (eat xs (k / 2 + 2) * (eat xs (k / 2 - 1) * eat xs (k / 2 - 1)) - eat xs (k / 2 - 2) * (eat xs (k / 2 + 1) * eat xs (k / 2 + 1)))
  else if k / 2 % 2 = 0 then eat xs (k / 2 + 2) * (eat xs (k / 2) * eat xs (k / 2) * eat xs (k / 2)) * g - eat xs (k / 2 - 1) * (eat xs (k / 2 + 1) * eat xs (k / 2 + 1) * eat xs (k / 2 + 1))
  else eat xs (k / 2 + 2) * (eat xs (k / 2) * eat xs (k / 2) * eat xs (k / 2)) - eat xs (k / 2 - 1) * (eat xs (k / 2 + 1) * eat xs (k / 2 + 1) * eat xs (k / 2 + 1)) * g
def dwG (A B x : Int) : Int := 16 * dvF A B x * dvF A B x
def dwL (A B x : Int) : Nat → List Int
  | 0 => [0, 1, 1, dvT A B x, dvQ A B x]
  | j + 1 => dwL A B x j ++ [dwN (dwG A B x) (dwL A B x j) (5 + j)]
theorem dwL_len (A B x : Int) : ∀ j, (dwL A B x j).length = 5 + j
  | 0 => rfl
  | j + 1 => by simp only [dwL, List.length_append, dwL_len A B x j, List.length_singleton]; omega
theorem dwL_pre (A B x : Int) (i j n : Nat) (hn : n < 5 + i) : eat (dwL A B x (i + j)) n = eat (dwL A B x i) n := by
  induction j with
  | zero => rfl
  | succ j ih =>
    rw [← ih, Nat.add_succ]
    unfold eat
    rw [dwL, List.getElem?_append_left (by rw [dwL_len]; omega)]
def dwE (A B x : Int) (n : Nat) : Int := eat (dwL A B x (n - 4)) n
theorem dwE_of (A B x : Int) (j n : Nat) (hn : n < 5 + j) : eat (dwL A B x j) n = dwE A B x n := by
  unfold dwE
  have h := dwL_pre A B x (n - 4) (j - (n - 4)) n (by omega)
  rw [show n - 4 + (j - (n - 4)) = j by omega] at h
  exact h
/-! their digits -/
def ean (xs : List Nat) (i : Nat) : Nat := xs[i]?.getD 1
def szN (xs : List Nat) (k : Nat) : Nat :=
  if k % 2 = 0 then ean xs (k / 2) + (max (ean xs (k / 2 + 2) + (ean xs (k / 2 - 1) + ean xs (k / 2 - 1))) (ean xs (k / 2 - 2) + (ean xs (k / 2 + 1) + ean xs (k / 2 + 1))) + 1)
  else max (ean xs (k / 2 + 2) + (ean xs (k / 2) + ean xs (k / 2) + ean xs (k / 2)) + 5) (ean xs (k / 2 - 1) + (ean xs (k / 2 + 1) + ean xs (k / 2 + 1) + ean xs (k / 2 + 1)) + 5) + 1
def szL : Nat → List Nat
  | 0 => [1, 1, 1, 4, 5]
  | j + 1 => szL j ++ [szN (szL j) (5 + j)]
theorem szL_len : ∀ j, (szL j).length = 5 + j
  | 0 => rfl
  | j + 1 => by simp only [szL, List.length_append, szL_len j, List.length_singleton]; omega
theorem mulTwo_bd {x M : Int} (hM : 0 ≤ M) (h : -M ≤ x ∧ x ≤ M) {y N : Int} (hN : 0 ≤ N) (k : -N ≤ y ∧ y ≤ N) : -(M * N) ≤ x * y ∧ x * y ≤ M * N := by
  have h1 : (x * y).natAbs ≤ M.natAbs * N.natAbs := by rw [Int.natAbs_mul]; exact Nat.mul_le_mul (by omega) (by omega)
  have h2 : ((M.natAbs * N.natAbs : Nat) : Int) = M * N := by rw [Int.natCast_mul, Int.natAbs_of_nonneg hM, Int.natAbs_of_nonneg hN]
  omega
theorem dv_bds {A B x : Int} (hA : -1000 ≤ A ∧ A ≤ 1000) (hB : -10000 ≤ B ∧ B ≤ 10000) (hx : -1000 ≤ x ∧ x ≤ 1000) : Sz 4 (dvT A B x) ∧ Sz 5 (dvQ A B x) ∧ Sz 5 (dwG A B x) := by
  have x2 := mulTwo_bd (by omega) hx (by omega) hx
  have x3 := mulTwo_bd (by omega) x2 (by omega) hx
  have x4 := mulTwo_bd (by omega) x3 (by omega) hx
  have x4' := mulTwo_bd (by omega) x2 (by omega) x2
  have x6 := mulTwo_bd (by omega) x3 (by omega) x3
  have a1 := mulTwo_bd (by omega) hA (by omega) hx
  have a2 := mulTwo_bd (by omega) hA (by omega) x2
  have a4 := mulTwo_bd (by omega) hA (by omega) x4'
  have aa := mulTwo_bd (by omega) hA (by omega) hA
  have aaa := mulTwo_bd (by omega) aa (by omega) hA
  have aa2 := mulTwo_bd (by omega) aa (by omega) x2
  have b1 := mulTwo_bd (by omega) hB (by omega) hx
  have b3 := mulTwo_bd (by omega) hB (by omega) x3
  have ab := mulTwo_bd (by omega) hA (by omega) hB
  have abx := mulTwo_bd (by omega) ab (by omega) hx
  have bb := mulTwo_bd (by omega) hB (by omega) hB
  have hf : -1001010000 ≤ dvF A B x ∧ dvF A B x ≤ 1001010000 := by unfold dvF; omega
  have ff := mulTwo_bd (by omega) hf (by omega) hf
  refine ⟨Sz.of4 ?_ ?_, Sz.of5 ?_ ?_, Sz.of5 ?_ ?_⟩
  · have e : dvT A B x = 3 * (x * x * x * x) + 6 * (A * (x * x)) + 12 * (B * x) - A * A := by unfold dvT; grind
    omega
  · have e : dvT A B x = 3 * (x * x * x * x) + 6 * (A * (x * x)) + 12 * (B * x) - A * A := by unfold dvT; grind
    omega
  · have e : dvQ A B x = 2 * (x * x * x * (x * x * x) + 5 * (A * (x * x * (x * x))) + 20 * (B * (x * x * x)) - 5 * (A * A * (x * x)) - 4 * (A * B * x) - 8 * (B * B) - A * A * A) := by unfold dvQ; grind
    omega
  · have e : dvQ A B x = 2 * (x * x * x * (x * x * x) + 5 * (A * (x * x * (x * x))) + 20 * (B * (x * x * x)) - 5 * (A * A * (x * x)) - 4 * (A * B * x) - 8 * (B * B) - A * A * A) := by unfold dvQ; grind
    omega
  · have e : dwG A B x = 16 * (dvF A B x * dvF A B x) := by unfold dwG; grind
    omega
  · have e : dwG A B x = 16 * (dvF A B x * dvF A B x) := by unfold dwG; grind
    omega
theorem dwL_sz {A B x : Int} (hA : -1000 ≤ A ∧ A ≤ 1000) (hB : -10000 ≤ B ∧ B ≤ 10000) (hx : -1000 ≤ x ∧ x ≤ 1000) : ∀ j i, Sz (ean (szL j) i) (eat (dwL A B x j) i)
  | 0, i => by
    obtain ⟨h3, h4, _⟩ := dv_bds hA hB hx
    match i with
    | 0 => exact Sz.of1 (by show -10000 < (0 : Int); omega) (by show (0 : Int) < 10000; omega)
    | 1 => exact Sz.of1 (by show -10000 < (1 : Int); omega) (by show (1 : Int) < 10000; omega)
    | 2 => exact Sz.of1 (by show -10000 < (1 : Int); omega) (by show (1 : Int) < 10000; omega)
    | 3 => exact h3
    | 4 => exact h4
    | i + 5 => exact Sz.of1 (by show -10000 < (0 : Int); omega) (by show (0 : Int) < 10000; omega)
  | j + 1, i => by
    have ih := dwL_sz hA hB hx j
    obtain ⟨_, _, hg⟩ := dv_bds hA hB hx
    rcases Nat.lt_trichotomy i (5 + j) with h | h | h
    · have e1 : ean (szL (j + 1)) i = ean (szL j) i := by unfold ean; rw [szL, List.getElem?_append_left (by rw [szL_len]; omega)]
      have e2 : eat (dwL A B x (j + 1)) i = eat (dwL A B x j) i := by unfold eat; rw [dwL, List.getElem?_append_left (by rw [dwL_len]; omega)]
      rw [e1, e2]; exact ih i
    · subst h
      have e1 : ean (szL (j + 1)) (5 + j) = szN (szL j) (5 + j) := by unfold ean; rw [szL, List.getElem?_append_right (by rw [szL_len]; omega), szL_len]; simp
      have e2 : eat (dwL A B x (j + 1)) (5 + j) = dwN (dwG A B x) (dwL A B x j) (5 + j) := by unfold eat; rw [dwL, List.getElem?_append_right (by rw [dwL_len]; omega), dwL_len]; simp
      rw [e1, e2]
      generalize 5 + j = k
      unfold dwN szN
      by_cases h2 : k % 2 = 0
      · rw [if_pos h2, if_pos h2]
        exact (ih _).mul ((((ih _).mul ((ih _).mul (ih _))).mono (Nat.le_max_left _ _)).sub (((ih _).mul ((ih _).mul (ih _))).mono (Nat.le_max_right _ _)))
      · rw [if_neg h2, if_neg h2]
        split
        · exact (((((ih _).mul (((ih _).mul (ih _)).mul (ih _))).mul hg)).mono (Nat.le_max_left _ _)).sub (((ih _).mul (((ih _).mul (ih _)).mul (ih _))).mono (Nat.le_trans (Nat.le_add_right _ 5) (Nat.le_max_right _ _)))
        · exact ((((ih _).mul (((ih _).mul (ih _)).mul (ih _)))).mono (Nat.le_trans (Nat.le_add_right _ 5) (Nat.le_max_left _ _))).sub ((((ih _).mul (((ih _).mul (ih _)).mul (ih _))).mul hg).mono (Nat.le_max_right _ _))
    · have e2 : eat (dwL A B x (j + 1)) i = 0 := by unfold eat; rw [List.getElem?_eq_none (by rw [dwL_len]; omega)]; rfl
      have e1 : ean (szL (j + 1)) i = 1 := by unfold ean; rw [List.getElem?_eq_none (by rw [szL_len]; omega)]; rfl
      rw [e1, e2]
      exact Sz.of1 (by omega) (by omega)
theorem szL_le : ((List.range 13).all fun i => decide (ean (szL 8) i ≤ 3000)) = true := by decide +kernel
theorem szL_pre (i j n : Nat) (hn : n < 5 + i) : ean (szL (i + j)) n = ean (szL i) n := by
  induction j with
  | zero => rfl
  | succ j ih =>
    rw [← ih, Nat.add_succ]
    unfold ean
    rw [szL, List.getElem?_append_left (by rw [szL_len]; omega)]
theorem dw_sz {A B x : Int} (hA : -1000 ≤ A ∧ A ≤ 1000) (hB : -10000 ≤ B ∧ B ≤ 10000) (hx : -1000 ≤ x ∧ x ≤ 1000) (j : Nat) (hj : j ≤ 8) (i : Nat) : Sz 3000 (eat (dwL A B x j) i) := by
  refine (dwL_sz hA hB hx j i).mono ?_
  rcases Nat.lt_or_ge i (5 + j) with h | h
  · have h1 := szL_pre j (8 - j) i h
    rw [show j + (8 - j) = 8 by omega] at h1
    rw [← h1]
    simpa using List.all_eq_true.1 szL_le i (by simp; omega)
  · unfold ean
    rw [List.getElem?_eq_none (by rw [szL_len]; omega)]
    simp
end Go.Proofs.YtmlfkceafkhlaaaDoor
