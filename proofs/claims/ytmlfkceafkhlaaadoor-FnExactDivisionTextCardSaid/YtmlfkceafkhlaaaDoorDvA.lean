/- Walks: division values asked for, IsDivided. -/
import Derived.Test.YtmlfkceafkhlaaaDoorDvS
namespace Go.Proofs.YtmlfkceafkhlaaaDoor
open Go.RowKit

def rsZ (o : Bool) (A : Int) : Int := if o then A else 0
noncomputable def dvOk (A B p x n : Int) : Bool := fitB A B p x && inB n 1 40
theorem dvOk_of {A B p x n : Int} (h : dvOk A B p x n = true) : fitB A B p x = true ∧ (1 ≤ n ∧ n ≤ 40) := by
  unfold dvOk at h
  simp only [Bool.and_eq_true] at h
  exact ⟨h.1, inB_true h.2⟩
/-- a value is read out of a row -/
theorem row_at {w : World} {base : Nat} {v : Value} {A B p x : Int} {j n : Nat} (ho : OwnsI w base v (dvL A B p x j)) (hn : n < 5 + j) :
    ∃ g cap, v = .slice (some ⟨g, 0, none⟩) (5 + j) cap ∧ w.cell? ⟨g, n, none⟩ = some (.int .i64 (dvE A B p x n)) := by
  have hl := dvL_len A B p x j
  obtain ⟨a, cap, hv, hc⟩ := ho.form
  obtain ⟨g, ha, h1, _⟩ := hc n (by omega)
  refine ⟨g, cap, by rw [hv, ha, hl], ?_⟩
  rw [h1, ← dvE_of A B p x j n hn]; rfl
def zB (A B p x n : Int) : Bool := dvE A B p x n.toNat == 0 || (n % 2 == 0 && fV A B x % p == 0)
end Go.Proofs.YtmlfkceafkhlaaaDoor
