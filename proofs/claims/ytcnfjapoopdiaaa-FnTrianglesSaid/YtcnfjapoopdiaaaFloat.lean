/- Plain: the square root of a whole number by floats is finite and small. -/
import Derived.WalkKit
import Derived.Laws.FloatArith
namespace Go.Proofs.Ytcnfjapoopdiaaa
open Go Ieee

theorem lg_iff {n k : Nat} (h1 : 2 ^ k ≤ n) (h2 : n < 2 ^ (k + 1)) : n.log2 = k := by
  have hn : n ≠ 0 := by have := Nat.two_pow_pos k; omega
  rw [Nat.log2_eq_iff hn]; exact ⟨h1, h2⟩
theorem lg_bd {n : Nat} (h : n ≠ 0) : 2 ^ n.log2 ≤ n ∧ n < 2 ^ (n.log2 + 1) := (Nat.log2_eq_iff h).1 rfl
theorem lg_lt {n k : Nat} (h : n ≠ 0) (h2 : n < 2 ^ k) : n.log2 < k := (Nat.log2_lt h).2 h2
/-- what is kept of a magnitude -/
theorem cut_zero_le (n drop : Nat) : Toward.zero.cut false n drop = n / (1 <<< min drop (n.log2 + 2)) := by
  simp [Toward.cut]
theorem cut_even_bd (neg : Bool) (n drop : Nat) : n / (1 <<< min drop (n.log2 + 2)) ≤ Toward.even.cut neg n drop ∧ Toward.even.cut neg n drop ≤ n / (1 <<< min drop (n.log2 + 2)) + 1 := by
  unfold Toward.cut
  generalize (match Toward.even with
    | .even => decide ((1 <<< min drop (n.log2 + 2)) < 2 * (n % 1 <<< min drop (n.log2 + 2))) || ((1 <<< min drop (n.log2 + 2)) == 2 * (n % 1 <<< min drop (n.log2 + 2)) && (n / 1 <<< min drop (n.log2 + 2)) % 2 == 1)
    | _ => false) = b
  constructor
  · exact Nat.le_add_right _ _
  · simp only
    exact Nat.add_le_add_left (Bool.toNat_le _) _
theorem keptN {mag : Nat} (h : mag ≠ 0) {place last : Int} (hl : last = place + mag.log2 - 52) :
    2 ^ 52 ≤ Toward.even.cut false (mag <<< (place - last).toNat) (last - place).toNat ∧ Toward.even.cut false (mag <<< (place - last).toNat) (last - place).toNat ≤ 2 ^ 53 := by
  obtain ⟨h1, h2⟩ := lg_bd h
  rcases Int.lt_or_le place last with hlt | hle
  · have e1 : (place - last).toNat = 0 := by omega
    have e2 : (last - place).toNat = mag.log2 - 52 := by omega
    have h3 := cut_even_bd false mag (mag.log2 - 52)
    rw [e1, e2, Nat.shiftLeft_zero]
    rw [Nat.min_eq_left (by omega), Nat.shiftLeft_eq, Nat.one_mul] at h3
    have e3 : mag.log2 = 52 + (mag.log2 - 52) := by omega
    rw [e3, Nat.pow_add] at h1
    rw [e3, show 52 + (mag.log2 - 52) + 1 = 53 + (mag.log2 - 52) by omega, Nat.pow_add] at h2
    have hp := Nat.two_pow_pos (mag.log2 - 52)
    have h4 : 2 ^ 52 ≤ mag / 2 ^ (mag.log2 - 52) := (Nat.le_div_iff_mul_le hp).2 h1
    have h5 : mag / 2 ^ (mag.log2 - 52) < 2 ^ 53 := (Nat.div_lt_iff_lt_mul hp).2 h2
    omega
  · have e1 : (place - last).toNat = 52 - mag.log2 := by omega
    have e2 : (last - place).toNat = 0 := by omega
    have hlog : mag.log2 ≤ 52 := by omega
    have h3 := cut_even_bd false (mag <<< (52 - mag.log2)) 0
    rw [e1, e2]
    rw [Nat.zero_min, Nat.shiftLeft_zero, Nat.div_one, Nat.shiftLeft_eq] at h3
    have e3 : 2 ^ mag.log2 * 2 ^ (52 - mag.log2) = 2 ^ 52 := by rw [← Nat.pow_add]; congr 1; omega
    have e4 : 2 ^ (mag.log2 + 1) * 2 ^ (52 - mag.log2) = 2 ^ 53 := by rw [← Nat.pow_add]; congr 1; omega
    have h4 := Nat.mul_le_mul_right (2 ^ (52 - mag.log2)) h1
    have h5 := Nat.mul_lt_mul_of_pos_right h2 (Nat.two_pow_pos (52 - mag.log2))
    rw [Nat.shiftLeft_eq]
    omega
theorem read_write {mag : Nat} (h : mag ≠ 0) {place : Int} (h1 : -1000 ≤ place + mag.log2 - 52) (h2 : place + mag.log2 - 52 ≤ 900) :
    ∃ m p, double.read (double.nearest false mag place) = .number false m p ∧ 2 ^ 52 ≤ m ∧ m < 2 ^ 53 ∧ place + mag.log2 - 52 ≤ p ∧ p ≤ place + mag.log2 - 52 + 1 := by
  generalize hl : place + mag.log2 - 52 = last at *
  have hk := keptN h hl.symm
  have e0 : double.nearest false mag place = (last + 1074).toNat * 2 ^ 52 + Toward.even.cut false (mag <<< (place - last).toNat) (last - place).toNat := by
    unfold Format.nearest
    rw [if_neg h]
    have el : max (place + (mag.log2 : Int) - (double.fractionBits : Nat)) double.leastPlace = last := by
      have : double.leastPlace = -1074 := by decide
      rw [this]
      have : ((double.fractionBits : Nat) : Int) = 52 := rfl
      rw [this]; omega
    simp only [el]
    have e9 : double.leastPlace = -1074 := by decide
    have e1 : last - double.leastPlace = last + 1074 := by omega
    have e2 : double.binade = 2 ^ 52 := rfl
    have e3 : double.infRung = 2047 * 2 ^ 52 := by decide
    rw [e1, e2, e3]
    generalize Toward.even.cut false (mag <<< (place - last).toNat) (last - place).toNat = kept at hk ⊢
    have h3 : (last + 1074).toNat ≤ 1974 := by omega
    have h4 := Nat.mul_le_mul_right (2 ^ 52) h3
    have h5 : (last + 1074).toNat * 2 ^ 52 + kept ≤ 2047 * 2 ^ 52 := Nat.le_trans (Nat.add_le_add h4 hk.2) (by decide +kernel)
    simp only [Format.word, Bool.false_eq_true, if_false]
    exact Nat.min_eq_left h5
  rw [e0]
  generalize Toward.even.cut false (mag <<< (place - last).toNat) (last - place).toNat = kept at hk ⊢
  obtain ⟨E, hE⟩ : ∃ E, (last + 1074).toNat = E := ⟨_, rfl⟩
  rw [hE]
  have hEb : E ≤ 1974 := by omega
  have hEb2 : 74 ≤ E := by omega
  have hm := Nat.mul_le_mul_right (2 ^ 52) hEb
  have e1 : double.signWeight = 2 ^ 63 := by decide
  have e2 : double.binade = 2 ^ 52 := rfl
  have e3 : double.infRung = 2047 * 2 ^ 52 := by decide
  have e4 : double.leastPlace = -1074 := by decide
  have hw : E * 2 ^ 52 + kept < 2 ^ 63 := by omega
  have hneg : (((E * 2 ^ 52 + kept) / 2 ^ 63 % 2) == 1) = false := by rw [Nat.div_eq_of_lt hw]; rfl
  unfold Format.read
  simp only [e1, e2, e3, e4, hneg, Nat.mod_eq_of_lt hw]
  rw [if_neg (by have := Nat.mul_le_mul_right (2 ^ 52) hEb2; omega), if_pos (by omega)]
  rcases Nat.lt_or_ge kept (2 ^ 53) with hc | hc
  · obtain ⟨r, rfl⟩ : ∃ r, kept = 2 ^ 52 + r := ⟨kept - 2 ^ 52, by omega⟩
    have hr : r < 2 ^ 52 := by omega
    have e5 : (E * 2 ^ 52 + (2 ^ 52 + r)) / 2 ^ 52 = E + 1 := by
      rw [show E * 2 ^ 52 + (2 ^ 52 + r) = r + (E + 1) * 2 ^ 52 by rw [Nat.add_mul]; omega, Nat.add_mul_div_right _ _ (Nat.two_pow_pos 52), Nat.div_eq_of_lt hr]; omega
    have e6 : (E * 2 ^ 52 + (2 ^ 52 + r)) % 2 ^ 52 = r := by
      rw [show E * 2 ^ 52 + (2 ^ 52 + r) = r + (E + 1) * 2 ^ 52 by rw [Nat.add_mul]; omega, Nat.add_mul_mod_self_right, Nat.mod_eq_of_lt hr]
    rw [e5, e6]
    exact ⟨_, _, rfl, by omega, by omega, by omega, by omega⟩
  · obtain rfl : kept = 2 ^ 53 := by omega
    have e5 : (E * 2 ^ 52 + 2 ^ 53) / 2 ^ 52 = E + 2 := by
      rw [show E * 2 ^ 52 + 2 ^ 53 = 0 + (E + 2) * 2 ^ 52 by rw [Nat.add_mul]; omega, Nat.add_mul_div_right _ _ (Nat.two_pow_pos 52)]; simp
    have e6 : (E * 2 ^ 52 + 2 ^ 53) % 2 ^ 52 = 0 := by
      rw [show E * 2 ^ 52 + 2 ^ 53 = 0 + (E + 2) * 2 ^ 52 by rw [Nat.add_mul]; omega, Nat.add_mul_mod_self_right]
    rw [e5, e6]
    exact ⟨_, _, rfl, by omega, by omega, by omega, by omega⟩
theorem rootFrom_le (n : Nat) : ∀ (todo root : Nat), root * root ≤ n → Datum.rootFrom n todo root * Datum.rootFrom n todo root ≤ n
  | 0, root, h => h
  | todo + 1, root, h => by
    unfold Datum.rootFrom
    simp only
    split
    · rename_i h2; exact rootFrom_le n todo _ h2
    · exact rootFrom_le n todo _ h
theorem sqrtInt (n : Nat) (hn : n ≤ 1000000000) : ∃ (s m : Nat), double.sqrt (double.nearest false n 0) = some s ∧ (double.read s).toInt .zero = some (m : Int) ∧ m ≤ 1000000 := by
  by_cases h0 : n = 0
  · subst h0
    exact ⟨0, 0, by decide +kernel, by decide +kernel, by omega⟩
  · have hlog : n.log2 < 30 := lg_lt h0 (by omega)
    obtain ⟨m1, i, hr, a1, a2, a3, a4⟩ := read_write h0 (place := 0) (by omega) (by omega)
    unfold Format.sqrt
    rw [hr]
    have hl1 : m1.log2 = 52 := lg_iff a1 a2
    unfold Datum.root
    simp only
    rw [if_neg (by omega), if_neg (by decide)]
    simp only [hl1, show double.fractionBits + 2 = 54 from rfl]
    obtain ⟨c, hc, hc1⟩ : ∃ c : Nat, 2 * 54 - 52 + ((i - (2 * 54 - 52 : Nat)) % 2).toNat = c ∧ (56 ≤ c ∧ c ≤ 57) := ⟨_, rfl, by omega, by omega⟩
    rw [hc]
    have hw := rootFrom_le (m1 <<< c) ((m1 <<< c).log2 / 2 + 1) 0 (Nat.zero_le _)
    generalize Datum.rootFrom (m1 <<< c) ((m1 <<< c).log2 / 2 + 1) 0 = W at hw
    have hN : m1 <<< c < 2 ^ 110 ∧ 1 ≤ m1 <<< c := by
      rw [Nat.shiftLeft_eq]
      have h1 : 2 ^ c ≤ 2 ^ 57 := Nat.pow_le_pow_right (by omega) hc1.2
      have h2 := Nat.mul_le_mul_left m1 h1
      have h3 : 1 * 1 ≤ m1 * 2 ^ c := Nat.mul_le_mul (show 1 ≤ m1 by omega) (Nat.one_le_two_pow)
      generalize m1 * 2 ^ c = x at *
      omega
    have hW : W < 2 ^ 55 := by
      rcases Nat.lt_or_ge W (2 ^ 55) with h | h
      · exact h
      · have := Nat.mul_le_mul h h; omega
    obtain ⟨b, hb, hb1, hb0⟩ : ∃ b : Nat, (W * W != m1 <<< c).toNat = b ∧ b ≤ 1 ∧ (W = 0 → b = 1) := ⟨_, rfl, Bool.toNat_le _, fun h => by
      subst h
      have : (0 * 0 != m1 <<< c) = true := by simp; omega
      rw [this]; rfl⟩
    rw [hb]
    have hM : 2 * W + b ≠ 0 := by
      intro h
      have : W = 0 := by omega
      have := hb0 this
      omega
    have hlM : (2 * W + b).log2 < 56 := lg_lt hM (by omega)
    obtain ⟨m2, p, hr2, b1, b2, b3, b4⟩ := read_write hM (place := (i - c) / 2 - 1) (by omega) (by omega)
    refine ⟨double.nearest false (2 * W + b) ((i - c) / 2 - 1), m2 / (1 <<< min (-p).toNat (m2.log2 + 2)), rfl, ?_, ?_⟩
    · rw [hr2]
      unfold Datum.toInt Datum.integral
      simp only [cut_zero_le, show p.toNat = 0 by omega, Nat.shiftLeft_zero]
      simp [signed]
    · have hl2 : m2.log2 = 52 := lg_iff b1 b2
      rw [hl2, Nat.shiftLeft_eq, Nat.one_mul]
      have h1 : 2 ^ 36 ≤ 2 ^ min (-p).toNat (52 + 2) := Nat.pow_le_pow_right (by omega) (by omega)
      have h2 : m2 / 2 ^ min (-p).toNat (52 + 2) ≤ m2 / 2 ^ 36 := Nat.div_le_div_left h1 (by decide)
      have h3 : m2 / 2 ^ 36 ≤ 2 ^ 17 := Nat.le_of_lt_succ ((Nat.div_lt_iff_lt_mul (by decide)).2 (by omega))
      omega
/-- the whole square root -/
def rt : Nat → Nat
  | 0 => 0
  | n + 1 => if (rt n + 1) * (rt n + 1) ≤ n + 1 then rt n + 1 else rt n
theorem rt_spec : ∀ n, rt n * rt n ≤ n ∧ n < (rt n + 1) * (rt n + 1)
  | 0 => by simp [rt]
  | n + 1 => by
    have ⟨h1, h2⟩ := rt_spec n
    unfold rt
    split
    · rename_i h
      refine ⟨h, ?_⟩
      have : (rt n + 1 + 1) * (rt n + 1 + 1) = (rt n + 1) * (rt n + 1) + 2 * (rt n + 1) + 1 := by rw [Nat.add_mul, Nat.mul_add]; omega
      omega
    · omega
theorem rt_uniq {n r : Nat} (h1 : r * r ≤ n) (h2 : n < (r + 1) * (r + 1)) : r = rt n := by
  have ⟨h3, h4⟩ := rt_spec n
  rcases Nat.lt_trichotomy r (rt n) with h | h | h
  · have := Nat.mul_le_mul (show r + 1 ≤ rt n by omega) (show r + 1 ≤ rt n by omega); omega
  · exact h
  · have := Nat.mul_le_mul (show rt n + 1 ≤ r by omega) (show rt n + 1 ≤ r by omega); omega
def rtI (n : Int) : Int := rt n.toNat
theorem rtI_nonneg (n : Int) : 0 ≤ rtI n := Int.natCast_nonneg _
theorem rtI_spec {n : Int} (h : 0 ≤ n) : rtI n * rtI n ≤ n ∧ n < (rtI n + 1) * (rtI n + 1) := by
  have ⟨h1, h2⟩ := rt_spec n.toNat
  unfold rtI
  have e1 : ((rt n.toNat : Nat) : Int) * (rt n.toNat : Nat) = ((rt n.toNat * rt n.toNat : Nat) : Int) := by simp
  have e2 : (((rt n.toNat : Nat) : Int) + 1) * ((rt n.toNat : Nat) + 1) = (((rt n.toNat + 1) * (rt n.toNat + 1) : Nat) : Int) := by simp
  rw [e1, e2]; omega
theorem rtI_uniq {n r : Int} (h0 : 0 ≤ r) (h1 : r * r ≤ n) (h2 : n < (r + 1) * (r + 1)) : r = rtI n := by
  obtain ⟨k, rfl⟩ := Int.eq_ofNat_of_zero_le h0
  have hn : 0 ≤ n := by have := Int.mul_nonneg h0 h0; omega
  obtain ⟨m, rfl⟩ := Int.eq_ofNat_of_zero_le hn
  unfold rtI
  rw [Int.toNat_natCast]
  have e : (((k : Nat) : Int) + 1) * ((k : Nat) + 1) = (((k + 1) * (k + 1) : Nat) : Int) := by simp
  rw [e] at h2
  have e' : ((k : Nat) : Int) * (k : Nat) = ((k * k : Nat) : Int) := by simp
  rw [e'] at h1
  congr 1
  exact rt_uniq (by omega) (by omega)
theorem sq_lt {a b : Int} (h : 0 ≤ a) (hb : 0 ≤ b) (h2 : b * b < a * a) : b < a := by
  rcases Int.lt_or_le b a with h' | h'
  · exact h'
  · have := Int.mul_le_mul h' h' h hb; omega
theorem rtI_le {n b : Int} (h : 0 ≤ n) (hb : 0 ≤ b) (hn : n < b * b) : rtI n < b := sq_lt hb (rtI_nonneg n) (by have := (rtI_spec h).1; omega)
end Go.Proofs.Ytcnfjapoopdiaaa
