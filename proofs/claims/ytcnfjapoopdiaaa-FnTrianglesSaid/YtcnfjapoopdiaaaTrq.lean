/- Plain: triangles by the values of their sides. -/
import Derived.Test.YtcnfjapoopdiaaaFv
import Derived.Test.YtcnfjapoopdiaaaIsLaw
import Derived.Test.YtcnfjapoopdiaaaSort
namespace Go.Proofs.Ytcnfjapoopdiaaa
open Go.RowKit

theorem no_two : ∀ (N m k : Nat), m ≤ N → m * m = 2 * (k * k) → k = 0
  | 0, m, k, h, e => by
    have : m = 0 := by omega
    subst this
    rcases Nat.eq_zero_or_pos k with h | h
    · exact h
    · have := Nat.mul_pos h h; omega
  | N + 1, m, k, h, e => by
    rcases Nat.eq_zero_or_pos k with hk | hk
    · exact hk
    · have hm : m % 2 = 0 := by
        rcases Nat.mod_two_eq_zero_or_one m with h1 | h1
        · exact h1
        · have : (m * m) % 2 = 1 := by rw [Nat.mul_mod, h1]
          omega
      obtain ⟨a, rfl⟩ : ∃ a, m = 2 * a := ⟨m / 2, by omega⟩
      have e2 : k * k = 2 * (a * a) := by
        have : 2 * a * (2 * a) = 4 * (a * a) := by grind
        omega
      have hlt : k < 2 * a := by
        rcases Nat.lt_or_ge k (2 * a) with h1 | h1
        · exact h1
        · have := Nat.mul_le_mul h1 h1
          have := Nat.mul_pos hk hk
          omega
      have ha := no_two N k a (by omega) e2
      subst ha
      simp at e2
      omega
theorem no_twoI {m k : Int} (h : m * m = 2 * (k * k)) : k = 0 := by
  have e : m.natAbs * m.natAbs = 2 * (k.natAbs * k.natAbs) := by
    have := congrArg Int.natAbs h
    rw [Int.natAbs_mul, Int.natAbs_mul, Int.natAbs_mul] at this
    exact this
  have := no_two m.natAbs m.natAbs k.natAbs (Nat.le_refl _) e
  omega
theorem fr_two {n : Int} (hn : 1 ≤ n ∧ n ≤ 31) : frOk (2 * n) 1 = true := by
  unfold frOk inB gcdI
  simp
  omega
/-- sides with these values are a triangle of n, where that is told -/
theorem tri_own {n p q r s t u : Int} (hn : 1 ≤ n ∧ n ≤ 31) (hk : tOk p q r s t u = true) (hp : 0 < p) (hl : p * s < r * q) (ht : 0 < t)
    (e1 : fv p q * fv p q + fv r s * fv r s = fv t u * fv t u) (e2 : fv p q * fv r s = ((2 * n : Int) : Rat)) : tIs n p q r s t u = true := by
  unfold tOk at hk
  simp only [Bool.and_eq_true] at hk
  obtain ⟨⟨⟨⟨m1, m2⟩, m3⟩, m4⟩, m5⟩ := hk
  have w1 := fv_mul m1
  have w2 := fv_mul m2
  have w3 := fv_mul m3
  have w4 := fv_mul m4
  have w5 := fv_add m5
  obtain ⟨i1, i2⟩ := fv_inj (mOk_fr m5) (mOk_fr m3) (by rw [w5, w1, w2, w3, e1])
  obtain ⟨i3, i4⟩ := fv_inj (mOk_fr m4) (fr_two hn) (by rw [w4, e2, fv_one'])
  unfold tIs isB
  rw [i1, i2, i3, i4]
  simp [hp, hl, ht]
theorem fv_neg (a x : Int) : fv (-a) x = -fv a x := by
  unfold fv
  rw [Rat.intCast_neg]
  grind
theorem abs_or (a : Int) : absI a = a ∨ absI a = -a := by unfold absI; omega
theorem fv_abs (a x : Int) : fv (absI a) x * fv (absI a) x = fv a x * fv a x := by
  rcases abs_or a with h | h <;> rw [h]
  rw [fv_neg]
  grind
theorem fv_pos {a x : Int} (ha : 0 < a) (hx : 0 < x) : 0 < fv a x := by
  have h1 : (0 : Rat) < (a : Rat) := by exact_mod_cast ha
  have h2 : (0 : Rat) < (x : Rat) := by exact_mod_cast hx
  have h3 : fv a x * (x : Rat) = (a : Rat) := by unfold fv; grind
  by_cases h : 0 < fv a x
  · exact h
  · exfalso
    have h5 := Rat.not_lt.1 h
    have h4 := Rat.mul_nonneg (show (0 : Rat) ≤ -fv a x by grind) (Rat.le_of_lt h2)
    grind
theorem fv_abs2 (a x b y : Int) : fv (absI a) x * fv (absI b) y = fv a x * fv b y ∨ fv (absI a) x * fv (absI b) y = -(fv a x * fv b y) := by
  rcases abs_or a with h | h <;> rcases abs_or b with k | k <;> rw [h, k] <;> (try rw [fv_neg]) <;> (try rw [fv_neg]) <;> grind
theorem fv_ne {a x : Int} (h : fv a x ≠ 0) : a ≠ 0 := fun e => h (by rw [e]; unfold fv; rw [show ((0 : Int) : Rat) = 0 by rfl]; grind)
/-- sides in order, without signs -/
theorem tri_ord {n a x b y c z : Int} (hn : 1 ≤ n) (fa : frOk a x = true) (fb : frOk b y = true) (fc : frOk c z = true)
    (h1 : fv a x * fv a x + fv b y * fv b y = fv c z * fv c z) (h2 : fv a x * fv b y = ((2 * n : Int) : Rat)) :
    0 < absI a ∧ 0 < absI b ∧ 0 < absI c ∧ absI a * y ≠ absI b * x ∧ fv (absI a) x * fv (absI b) y = ((2 * n : Int) : Rat) ∧ fv (absI a) x * fv (absI a) x + fv (absI b) y * fv (absI b) y = fv (absI c) z * fv (absI c) z := by
  obtain ⟨⟨hx, _⟩, _⟩ := frOk_of fa
  obtain ⟨⟨hy, _⟩, _⟩ := frOk_of fb
  obtain ⟨⟨hz, _⟩, _⟩ := frOk_of fc
  have hN : ((2 * n : Int) : Rat) ≠ 0 := cast_ne (by omega)
  have hfa : fv a x ≠ 0 := fun e => hN (by rw [← h2, e]; grind)
  have hfb : fv b y ≠ 0 := fun e => hN (by rw [← h2, e]; grind)
  have ha := fv_ne hfa
  have hb := fv_ne hfb
  have pa : 0 < absI a := by unfold absI; omega
  have pb : 0 < absI b := by unfold absI; omega
  have qa := fv_pos pa (show 0 < x by omega)
  have qb := fv_pos pb (show 0 < y by omega)
  have e1 : fv (absI a) x * fv (absI a) x + fv (absI b) y * fv (absI b) y = fv (absI c) z * fv (absI c) z := by rw [fv_abs, fv_abs, fv_abs, h1]
  have hc : c ≠ 0 := fun e => by
    subst e
    have h0 : fv (absI 0) z = 0 := by unfold fv absI; grind
    rw [h0] at e1
    have := Rat.mul_pos qa qa
    have := Rat.mul_pos qb qb
    grind
  have pc : 0 < absI c := by unfold absI; omega
  have hpos : (0 : Rat) < ((2 * n : Int) : Rat) := by exact_mod_cast (show (0 : Int) < 2 * n by omega)
  refine ⟨pa, pb, pc, ?_, ?_, e1⟩
  · intro he
    have n1 := cast_ne (show x ≠ 0 by omega)
    have n2 := cast_ne (show y ≠ 0 by omega)
    have n3 := cast_ne (show z ≠ 0 by omega)
    have k1 : (absI a : Rat) * (y : Rat) = (absI b : Rat) * (x : Rat) := by rw [← Rat.intCast_mul, ← Rat.intCast_mul, he]
    have k2 : fv (absI a) x = fv (absI b) y := by unfold fv; grind
    rw [← k2] at e1
    have k3 : (absI c : Rat) * (x : Rat) * ((absI c : Rat) * (x : Rat)) = 2 * (((absI a : Rat) * (z : Rat)) * ((absI a : Rat) * (z : Rat))) := by
      unfold fv at e1
      grind
    have k4 : (absI c * x) * (absI c * x) = 2 * ((absI a * z) * (absI a * z)) := by
      rw [← Rat.intCast_mul, ← Rat.intCast_mul, ← Rat.intCast_mul, ← Rat.intCast_mul, show (2 : Rat) = ((2 : Int) : Rat) by rfl, ← Rat.intCast_mul] at k3
      exact Rat.intCast_inj.1 k3
    have := no_twoI k4
    rcases Int.mul_eq_zero.1 this with h | h <;> omega
  · rcases fv_abs2 a x b y with h | h
    · rw [h, h2]
    · exfalso
      have := Rat.mul_pos qa qb
      rw [h, h2] at this
      grind
/-- the sides of a point: equations of their values -/
theorem pt_eq {x y n : Rat} (hy : y ≠ 0) (h : y * y = x * x * x - n * n * x) :
    ((x - n) * ((x + n) / y)) * ((x - n) * ((x + n) / y)) + (2 * n * (x / y)) * (2 * n * (x / y)) = ((x * x + n * n) / y) * ((x * x + n * n) / y) ∧ ((x - n) * ((x + n) / y)) * (2 * n * (x / y)) = 2 * n := by
  constructor
  · grind
  · grind
theorem back_eq {a b c n x y : Rat} (hb : b ≠ 0) (hn : n ≠ 0) (hac : a + c ≠ 0) (h : a * a + b * b = c * c) (hx : x = n * (a + c) / b) (hy : y = 2 * n * n * (a + c) / (b * b)) :
    (x - n) * ((x + n) / y) = a ∧ 2 * n * (x / y) = b ∧ (x * x + n * n) / y = c := by
  have hbb : b * b ≠ 0 := fun e => by rcases Rat.mul_eq_zero.1 e with e | e <;> exact hb e
  have h1 : x * b = n * (a + c) := by grind
  have h2 : y * (b * b) = 2 * n * n * (a + c) := by rw [hy]; generalize b * b = d at hbb; generalize 2 * n * n * (a + c) = m; grind
  clear hx hy
  have hy0 : y ≠ 0 := fun e => by
    subst e
    have h3 : n * n * (a + c) = 0 := by grind
    rcases Rat.mul_eq_zero.1 h3 with h4 | h4
    · rcases Rat.mul_eq_zero.1 h4 with h5 | h5 <;> exact hn h5
    · exact hac h4
  have k1 : (x - n) * (x + n) = a * y := by
    have : ((x - n) * (x + n) - a * y) * (b * b) = 0 := by grind
    rcases Rat.mul_eq_zero.1 this with h4 | h4
    · grind
    · exact (hbb h4).elim
  have k2 : 2 * n * x = b * y := by
    have : (2 * n * x - b * y) * (b * b) = 0 := by grind
    rcases Rat.mul_eq_zero.1 this with h4 | h4
    · grind
    · exact (hbb h4).elim
  have k3 : x * x + n * n = c * y := by
    have : (x * x + n * n - c * y) * (b * b) = 0 := by grind
    rcases Rat.mul_eq_zero.1 this with h4 | h4
    · grind
    · exact (hbb h4).elim
  clear h1 h2 h hb hn hac hbb
  refine ⟨?_, ?_, ?_⟩
  · have : (x - n) * ((x + n) / y) = ((x - n) * (x + n)) / y := by grind
    rw [this, k1]; grind
  · have : 2 * n * (x / y) = (2 * n * x) / y := by grind
    rw [this, k2]; grind
  · rw [k3]; grind
theorem half_eq {a b c n l h m : Rat} (e1 : a * a + b * b = c * c) (e2 : a * b = 2 * n) (hl : l = (b - a) / 2) (hh : h = c / 2) (hm : m = (a + b) / 2) : h * h - l * l = n ∧ m * m - h * h = n := by
  subst hl hh hm
  constructor <;> grind
end Go.Proofs.Ytcnfjapoopdiaaa
