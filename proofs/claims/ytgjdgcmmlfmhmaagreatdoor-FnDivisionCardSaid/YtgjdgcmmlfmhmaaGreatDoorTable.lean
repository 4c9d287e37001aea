/- Walks: the curves of a table. -/
import Derived.Test.YtgjdgcmmlfmhmaaGreatDoorPrime
import Derived.Test.YtgjdgcmmlfmhmaaGreatDoorEuler
import Derived.Deep.RegionHeld3
namespace Go.Proofs.YtgjdgcmmlfmhmaaGreatDoor
open Go.RowKit

theorem keep2 {w W w1 : World} {b B : Nat} {v0 v1 : Value} (h : W.cell? ⟨b, 0, none⟩ = some v0 ∧ W.cell? ⟨b, 1, none⟩ = some v1 ∧ b < W.heap.size ∧ B ≤ W.heap.size ∧ Below B w W) (hb : Below W.heap.size W w1) :
    w1.cell? ⟨b, 0, none⟩ = some v0 ∧ w1.cell? ⟨b, 1, none⟩ = some v1 ∧ b < w1.heap.size ∧ B ≤ w1.heap.size ∧ Below B w w1 :=
  ⟨(hb.cell (p := ⟨b, 0, none⟩) h.2.2.1).trans h.1, (hb.cell (p := ⟨b, 1, none⟩) h.2.2.1).trans h.2.1, Nat.lt_of_lt_of_le h.2.2.1 hb.size, Nat.le_trans h.2.2.2.1 hb.size, h.2.2.2.2.trans (hb.mono h.2.2.2.1)⟩
theorem keep2d {w W : World} {b B n : Nat} {v0 v1 : Value} (h : W.cell? ⟨b, 0, none⟩ = some v0 ∧ W.cell? ⟨b, 1, none⟩ = some v1 ∧ b < W.heap.size ∧ B ≤ W.heap.size ∧ Below B w W) :
    (W.drewN n).cell? ⟨b, 0, none⟩ = some v0 ∧ (W.drewN n).cell? ⟨b, 1, none⟩ = some v1 ∧ b < (W.drewN n).heap.size ∧ B ≤ (W.drewN n).heap.size ∧ Below B w (W.drewN n) :=
  ⟨h.1, h.2.1, h.2.2.1, h.2.2.2.1, below_drewN h.2.2.2.2 n⟩
theorem ret_int {k : IntKind} {a b : Int} (h : a = b) : Ending.returned (.int k a) = .returned (.int k b) := by rw [h]
def invV (p A B : Int) : Int := (6912 * A * A * A % p) * invM (disc A B) p % p
theorem cube_bd {A : Int} (h : 0 ≤ A) (h1 : A ≤ 1000) : (0 ≤ 6912 * A * A ∧ 6912 * A * A ≤ 6912000000) ∧ (0 ≤ 6912 * A * A * A ∧ 6912 * A * A * A ≤ 6912000000000) := by
  have e1 : 0 ≤ 6912 * A * A := Int.mul_nonneg (by omega) h
  have e2 : 6912 * A * A ≤ 6912000 * 1000 := Int.mul_le_mul (by omega) h1 h (by omega)
  have e3 : 6912 * A * A * A ≤ 6912000000 * 1000 := Int.mul_le_mul (by omega) h1 h (by omega)
  exact ⟨⟨e1, by omega⟩, Int.mul_nonneg e1 h, by omega⟩
theorem invM_bd (a p : Int) (h : 1 ≤ p) : 0 ≤ invM a p ∧ invM a p < p := powM_bd _ _ _ h
theorem mod_bd (a p : Int) (h : 1 ≤ p) : 0 ≤ a % p ∧ a % p < p := ⟨Int.emod_nonneg _ (by omega), Int.emod_lt_of_pos _ (by omega)⟩
noncomputable def tabP (p : Int) : Bool := inB p 5 31 && primeB p
noncomputable def tabB (p A B : Int) : Bool := tabP p && inB A 0 (p - 1) && inB B 0 (p - 1) && !(disc A B % p == 0)
theorem tabP_of {p : Int} (h : tabP p = true) : 5 ≤ p ∧ p ≤ 31 ∧ primeB p = true := by unfold tabP at h; simp at h; exact ⟨(inB_true h.1).1, (inB_true h.1).2, h.2⟩
theorem tabB_of {p A B : Int} (h : tabB p A B = true) : (5 ≤ p ∧ p ≤ 31) ∧ primeB p = true ∧ (0 ≤ A ∧ A ≤ p - 1) ∧ (0 ≤ B ∧ B ≤ p - 1) := by
  unfold tabB at h; simp at h
  exact ⟨⟨(tabP_of h.1.1.1).1, (tabP_of h.1.1.1).2.1⟩, (tabP_of h.1.1.1).2.2, inB_true h.1.1.2, inB_true h.1.2⟩
end Go.Proofs.YtgjdgcmmlfmhmaaGreatDoor
