/- Walks: the right side of the equation, asked-for residues, LiesOnCurve. -/
import Derived.Test.YtmlfkceafkhlaaaDoorTable
import Derived.Test.YtmlfkceafkhlaaaDoorCong
namespace Go.Proofs.YtmlfkceafkhlaaaDoor
open Go.RowKit

def fV (A B x : Int) : Int := x * x * x + A * x + B
theorem fV_mod (A B p x : Int) : (x * x % p * x + A * x + B) % p = fV A B x % p :=
  (((Cg.mod' (Cg.refl p _)).mul (Cg.refl p x)).add (Cg.refl p (A * x))).add (Cg.refl p B)
theorem fV_bd {A p x : Int} (hA : -1000 ≤ A ∧ A ≤ 1000) (hx : 0 ≤ x ∧ x ≤ 1000) (hp : 1 ≤ p ∧ p ≤ 1000) : (0 ≤ x * x ∧ x * x ≤ 1000000) ∧ (0 ≤ x * x * x ∧ x * x * x ≤ 1000000000) ∧ (-1000000 ≤ A * x ∧ A * x ≤ 1000000) ∧ (0 ≤ x * x % p ∧ x * x % p < p) ∧ (0 ≤ x * x % p * x ∧ x * x % p * x ≤ 1000000) := by
  have h1 := mulb (x := x) (y := x) 1000 1000 (by omega) (by omega)
  have h0 : 0 ≤ x * x := Int.mul_nonneg hx.1 hx.1
  have h2 := mulb (x := x * x) (y := x) 1000000 1000 (by omega) (by omega)
  have h3 := mulb (x := A) (y := x) 1000 1000 (by omega) (by omega)
  have h4 := mod_bd (x * x) p (by omega)
  have h5 := mulb (x := x * x % p) (y := x) 1000 1000 (by omega) (by omega)
  have h6 : 0 ≤ x * x * x := Int.mul_nonneg h0 hx.1
  have h7 : 0 ≤ x * x % p * x := Int.mul_nonneg h4.1 hx.1
  omega
theorem powM_mod (a n p : Int) : powM (a % p) n p = powM a n p := pow_mod _ _ _
theorem symI_mod (a p : Int) : symI (a % p) p = symI a p := by unfold symI; simp only [powM_mod]
theorem symS_mod (a p : Int) : symS (a % p) p = symS a p := by unfold symS; simp only [powM_mod]
theorem invM_mod (a p : Int) : invM (a % p) p = invM a p := powM_mod _ _ _
noncomputable def fitB (A B p x : Int) : Bool := curveB A B && goodP A B p && inB x 0 (p - 1)
theorem curve_of {A B : Int} (h0 : curveB A B = true) : (-1000 ≤ A ∧ A ≤ 1000) ∧ (-10000 ≤ B ∧ B ≤ 10000) := by
  unfold curveB at h0; simp at h0; exact ⟨inB_true h0.1.1, inB_true h0.1.2⟩
theorem good_of {A B p : Int} (h : goodP A B p = true) : (5 ≤ p ∧ p ≤ 997) ∧ primeB p = true := by
  unfold goodP at h; simp at h; exact ⟨inB_true h.1.1, h.1.2⟩
theorem fit_of {A B p x : Int} (h : fitB A B p x = true) : (-1000 ≤ A ∧ A ≤ 1000) ∧ (-10000 ≤ B ∧ B ≤ 10000) ∧ (5 ≤ p ∧ p ≤ 997) ∧ primeB p = true ∧ (0 ≤ x ∧ x ≤ p - 1) := by
  unfold fitB at h; simp at h
  exact ⟨(curve_of h.1.1).1, (curve_of h.1.1).2, (good_of h.1.2).1, (good_of h.1.2).2, inB_true h.2⟩
noncomputable def liesV (A B p x : Int) : Bool := decide (0 ≤ symS (fV A B x) p)
end Go.Proofs.YtmlfkceafkhlaaaDoor
