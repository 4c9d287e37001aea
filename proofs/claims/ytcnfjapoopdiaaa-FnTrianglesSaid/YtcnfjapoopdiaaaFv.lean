/- Plain: values of fractions as rational numbers. -/
import Derived.Test.YtcnfjapoopdiaaaFrac
namespace Go.Proofs.Ytcnfjapoopdiaaa
open Go.RowKit

/-- the value of a fraction -/
def fv (n d : Int) : Rat := (n : Rat) / (d : Rat)
theorem cast_ne {a : Int} (h : a ≠ 0) : (a : Rat) ≠ 0 := fun e => h (Rat.intCast_eq_zero_iff.1 e)
theorem mk_mul {n d : Int} (hd : d ≠ 0) : mkG n d ≠ 0 ∧ n = mkG n d * mkN n d ∧ d = mkG n d * mkD n d := by
  have hg : 0 < Int.gcd n d := Int.gcd_pos_iff.2 (.inr hd)
  have g1 : ((Int.gcd n d : Nat) : Int) ∣ n := Int.gcd_dvd_left n d
  have g2 : ((Int.gcd n d : Nat) : Int) ∣ d := Int.gcd_dvd_right n d
  have h1 : mkG n d ∣ n ∧ mkG n d ∣ d ∧ mkG n d ≠ 0 := by
    unfold mkG gcdI
    split
    · exact ⟨Int.neg_dvd.2 g1, Int.neg_dvd.2 g2, by omega⟩
    · exact ⟨g1, g2, by omega⟩
  refine ⟨h1.2.2, ?_, ?_⟩
  · exact (Int.mul_tdiv_cancel' h1.1).symm
  · exact (Int.mul_tdiv_cancel' h1.2.1).symm
theorem fv_mk {n d : Int} (hd : d ≠ 0) : fv (mkN n d) (mkD n d) = (n : Rat) / (d : Rat) := by
  obtain ⟨h0, h1, h2⟩ := mk_mul (n := n) hd
  have hd2 : mkD n d ≠ 0 := fun e => by rw [e, Int.mul_zero] at h2; exact hd h2
  have e1 : (n : Rat) = (mkG n d : Rat) * (mkN n d : Rat) := by rw [← Rat.intCast_mul, ← h1]
  have e2 : (d : Rat) = (mkG n d : Rat) * (mkD n d : Rat) := by rw [← Rat.intCast_mul, ← h2]
  have n0 := cast_ne h0
  have n1 := cast_ne hd2
  unfold fv
  rw [e1, e2]
  grind
theorem mOk_ne {n d : Int} (h : mOk n d = true) : d ≠ 0 := by unfold mOk at h; simp at h; exact h.1
theorem fv_mul {n d m e : Int} (h : mOk (n * m) (d * e) = true) : fv (mkN (n * m) (d * e)) (mkD (n * m) (d * e)) = fv n d * fv m e := by
  have h0 := mOk_ne h
  have h1 := cast_ne (show d ≠ 0 from fun k => h0 (by rw [k, Int.zero_mul]))
  have h2 := cast_ne (show e ≠ 0 from fun k => h0 (by rw [k, Int.mul_zero]))
  rw [fv_mk h0, Rat.intCast_mul, Rat.intCast_mul]
  unfold fv
  grind
theorem fv_add {n d m e : Int} (h : mOk (n * e + m * d) (d * e) = true) : fv (mkN (n * e + m * d) (d * e)) (mkD (n * e + m * d) (d * e)) = fv n d + fv m e := by
  have h0 := mOk_ne h
  have h1 := cast_ne (show d ≠ 0 from fun k => h0 (by rw [k, Int.zero_mul]))
  have h2 := cast_ne (show e ≠ 0 from fun k => h0 (by rw [k, Int.mul_zero]))
  rw [fv_mk h0, Rat.intCast_add, Rat.intCast_mul, Rat.intCast_mul, Rat.intCast_mul]
  unfold fv
  grind
theorem fv_sub {n d m e : Int} (h : mOk (n * e - m * d) (d * e) = true) : fv (mkN (n * e - m * d) (d * e)) (mkD (n * e - m * d) (d * e)) = fv n d - fv m e := by
  have h0 := mOk_ne h
  have h1 := cast_ne (show d ≠ 0 from fun k => h0 (by rw [k, Int.zero_mul]))
  have h2 := cast_ne (show e ≠ 0 from fun k => h0 (by rw [k, Int.mul_zero]))
  rw [fv_mk h0, Rat.intCast_sub, Rat.intCast_mul, Rat.intCast_mul, Rat.intCast_mul]
  unfold fv
  grind
theorem fv_div {n d m e : Int} (he : e ≠ 0) (h : mOk (n * e) (d * m) = true) : fv (mkN (n * e) (d * m)) (mkD (n * e) (d * m)) = fv n d / fv m e ∧ fv m e ≠ 0 := by
  have h0 := mOk_ne h
  have h1 := cast_ne (show d ≠ 0 from fun k => h0 (by rw [k, Int.zero_mul]))
  have h2 := cast_ne (show m ≠ 0 from fun k => h0 (by rw [k, Int.mul_zero]))
  have h3 := cast_ne he
  rw [fv_mk h0, Rat.intCast_mul, Rat.intCast_mul]
  unfold fv
  constructor <;> grind
/-- a valid fraction is known by its value -/
theorem fv_inj {n d m e : Int} (h : frOk n d = true) (k : frOk m e = true) (he : fv n d = fv m e) : n = m ∧ d = e := by
  obtain ⟨⟨hd, _⟩, _⟩ := frOk_of h
  obtain ⟨⟨ke, _⟩, _⟩ := frOk_of k
  have g1 : Int.gcd n d = 1 := by unfold frOk gcdI at h; simp only [Bool.and_eq_true, beq_iff_eq] at h; omega
  have g2 : Int.gcd m e = 1 := by unfold frOk gcdI at k; simp only [Bool.and_eq_true, beq_iff_eq] at k; omega
  have n1 := cast_ne (show d ≠ 0 by omega)
  have n2 := cast_ne (show e ≠ 0 by omega)
  have hx : (n : Rat) * (e : Rat) = (m : Rat) * (d : Rat) := by unfold fv at he; grind
  have hi : n * e = m * d := by
    rw [← Rat.intCast_mul, ← Rat.intCast_mul] at hx
    exact Rat.intCast_inj.1 hx
  have d1 : d.natAbs ∣ e.natAbs := by
    have : d.natAbs ∣ n.natAbs * e.natAbs := by rw [← Int.natAbs_mul, hi, Int.natAbs_mul]; exact Nat.dvd_mul_left _ _
    exact (Nat.Coprime.dvd_of_dvd_mul_left (Nat.coprime_comm.1 g1) this)
  have d2 : e.natAbs ∣ d.natAbs := by
    have : e.natAbs ∣ m.natAbs * d.natAbs := by rw [← Int.natAbs_mul, ← hi, Int.natAbs_mul]; exact Nat.dvd_mul_left _ _
    exact (Nat.Coprime.dvd_of_dvd_mul_left (Nat.coprime_comm.1 g2) this)
  have hde : d = e := by have := Nat.dvd_antisymm d1 d2; omega
  subst hde
  refine ⟨?_, rfl⟩
  have : (n - m) * d = 0 := by grind
  rcases Int.mul_eq_zero.1 this with h | h <;> omega
theorem fv_one' (n : Int) : fv n 1 = (n : Rat) := by unfold fv; rw [show ((1 : Int) : Rat) = 1 by rfl]; grind
end Go.Proofs.Ytcnfjapoopdiaaa
