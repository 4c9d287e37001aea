/- Walks: curves. -/
import Derived.Test.YtagmflioeelhjaaNum
namespace Go.Proofs.Ytagmflioeelhjaa
open Go.RowKit

theorem mulb {x y : Int} (a b : Int) (hx : -a ≤ x ∧ x ≤ a) (hy : -b ≤ y ∧ y ≤ b) : -(a * b) ≤ x * y ∧ x * y ≤ a * b := by
  have h1 : (x * y).natAbs ≤ a.natAbs * b.natAbs := by
    rw [Int.natAbs_mul]; exact Nat.mul_le_mul (by omega) (by omega)
  have h2 : ((a.natAbs * b.natAbs : Nat) : Int) = a * b := by
    rw [Int.natCast_mul, Int.natAbs_of_nonneg (by omega), Int.natAbs_of_nonneg (by omega)]
  omega
theorem bcell {W w1 : World} (hb : Below W.heap.size W w1) : (∀ b o, b < W.heap.size → w1.cell? ⟨b, o, none⟩ = W.cell? ⟨b, o, none⟩) ∧ (∀ b o, b < W.heap.size → w1.frozen? ⟨b, o, none⟩ = W.frozen? ⟨b, o, none⟩) :=
  ⟨fun b o h => hb.cell (p := ⟨b, o, none⟩) h, fun b o h => hb.frozen (p := ⟨b, o, none⟩) h⟩
theorem below_step {B S : Nat} {a W w1 : World} (hb : Below S W w1) (hs : B ≤ S) (h : Below B a W) : Below B a w1 := h.trans (hb.mono hs)
theorem below_drewN {B : Nat} {a w : World} (h : Below B a w) (n : Nat) : Below B a (w.drewN n) := ⟨h.os, h.tape, h.output, h.size, h.block⟩

theorem boxres {w w1 : World} {a b x y : Value} {t t' : TypeId} (hb : Below ((w.alloc (.cells #[a, b] t)).alloc (.cells #[x, y] t')).heap.size ((w.alloc (.cells #[a, b] t)).alloc (.cells #[x, y] t')) w1) (n : Nat) :
    (w1.drewN n).cell? ⟨w.heap.size, 0, none⟩ = some a ∧ (w1.drewN n).cell? ⟨w.heap.size, 1, none⟩ = some b ∧ (w1.drewN n).cell? ⟨w.heap.size + 1, 0, none⟩ = some x ∧ (w1.drewN n).cell? ⟨w.heap.size + 1, 1, none⟩ = some y ∧
    (w1.drewN n).frozen? ⟨w.heap.size + 1, 0, none⟩ = false ∧ (w1.drewN n).frozen? ⟨w.heap.size + 1, 1, none⟩ = false ∧ w.heap.size + 1 < (w1.drewN n).heap.size ∧ Below w.heap.size w (w1.drewN n) := by
  obtain ⟨hc, hf⟩ := bcell hb
  refine ⟨?_, ?_, ?_, ?_, ?_, ?_, ?_, ?_⟩
  · exact (hc w.heap.size 0 (by simp; omega)).trans (by simp [go_sem])
  · exact (hc w.heap.size 1 (by simp; omega)).trans (by simp [go_sem])
  · exact (hc (w.heap.size + 1) 0 (by simp)).trans (by simp [go_sem])
  · exact (hc (w.heap.size + 1) 1 (by simp)).trans (by simp [go_sem])
  · exact (hf (w.heap.size + 1) 0 (by simp)).trans (by simp [go_sem])
  · exact (hf (w.heap.size + 1) 1 (by simp)).trans (by simp [go_sem])
  · have := hb.size; simp at this; exact this
  · exact below_drewN (below_step hb (by simp; omega) (((Below.refl _ _).alloc (Nat.le_refl _) _).alloc (by simp) _)) n
def disc (A B : Int) : Int := 4 * A * A * A + 27 * B * B
theorem disc_bd {A B : Int} (hA : -1000 ≤ A ∧ A ≤ 1000) (hB : -10000 ≤ B ∧ B ≤ 10000) :
    (-4000000 ≤ 4 * A * A ∧ 4 * A * A ≤ 4000000) ∧ (-4000000000 ≤ 4 * A * A * A ∧ 4 * A * A * A ≤ 4000000000) ∧ (-2700000000 ≤ 27 * B * B ∧ 27 * B * B ≤ 2700000000) := by
  have h1 := mulb (x := 4 * A) (y := A) 4000 1000 (by omega) hA
  have h2 := mulb (x := 4 * A * A) (y := A) 4000000 1000 (by omega) hA
  have h3 := mulb (x := 27 * B) (y := B) 270000 10000 (by omega) hB
  omega
def curveB (A B : Int) : Bool := inB A (-1000) 1000 && inB B (-10000) 10000 && !(disc A B == 0)
theorem c_core (A B : Int) (hA : -1000 ≤ A ∧ A ≤ 1000) (hB : -10000 ≤ B ∧ B ≤ 10000) (w : World) :
    Calls Try.prog 119 #[.agg #[.int .i64 A, .int .i64 B]] w fun e w' => e = .returned (.int .i64 (disc A B)) ∧ Below w.heap.size w w' := by
  obtain ⟨h1, h2, h3⟩ := disc_bd hA hB
  go_enter Try.func119, Try.ntmps119
  go_wp2
  go_ret
  exact ⟨rfl, (Below.refl _ _).alloc (Nat.le_refl _) _⟩
theorem c_isCurve (A B : Int) (w : World) :
    Calls Try.prog 105 #[.agg #[.int .i64 A, .int .i64 B]] w fun e w' => e = .returned (.bool (curveB A B)) ∧ Below w.heap.size w w' := by
  unfold curveB
  cases h1 : inB A (-1000) 1000
  · go_enter Try.func105, Try.ntmps105
    go_wp2_with ((go_at_call 62; refine (c_inside _ _ _ _).mono ?_; rintro e w' ⟨rfl, rfl⟩))
    go_ret
    exact ⟨rfl, (Below.refl _ _).alloc (Nat.le_refl _) _⟩
  · cases h2 : inB B (-10000) 10000
    · go_enter Try.func105, Try.ntmps105
      go_wp2_with ((go_at_call 62; refine (c_inside _ _ _ _).mono ?_; rintro e w' ⟨rfl, rfl⟩))
      go_ret
      exact ⟨rfl, (Below.refl _ _).alloc (Nat.le_refl _) _⟩
    · have hA := inB_true h1
      have hB := inB_true h2
      go_enter Try.func105, Try.ntmps105
      go_wp2_with (first | (go_at_call 62; refine (c_inside _ _ _ _).mono ?_; rintro e w' ⟨rfl, rfl⟩) | (go_at_call 119; refine (c_core _ _ hA hB _).mono ?_; rintro e w1 ⟨rfl, hb1⟩; obtain ⟨hc1, hf1⟩ := bcell hb1; have hz1 := hb1.size; (try simp only [World.size_alloc] at hz1); (try (have hy1 : w.heap.size < w1.heap.size := by omega)); (try (have hx1 := Nat.lt_of_succ_le hz1)); (try (have hv1 := Nat.lt_of_succ_le (Nat.le_of_lt hx1)))))
      go_ret
      exact ⟨rfl, below_step hb1 (by simp) ((Below.refl _ _).alloc (Nat.le_refl _) _)⟩
end Go.Proofs.Ytagmflioeelhjaa
