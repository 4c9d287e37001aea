/- Walks: curves. -/
import Derived.Test.YtpnpidepkfnofaaGreatDoorNum
namespace Go.Proofs.YtpnpidepkfnofaaGreatDoor
open Go.RowKit

theorem mulb {x y : Int} (a b : Int) (hx : -a ≤ x ∧ x ≤ a) (hy : -b ≤ y ∧ y ≤ b) : -(a * b) ≤ x * y ∧ x * y ≤ a * b := by
  have h1 : (x * y).natAbs ≤ a.natAbs * b.natAbs := by
    rw [Int.natAbs_mul]; exact Nat.mul_le_mul (by omega) (by omega)
  have h2 : ((a.natAbs * b.natAbs : Nat) : Int) = a * b := by
    rw [Int.natCast_mul, Int.natAbs_of_nonneg (by omega), Int.natAbs_of_nonneg (by omega)]
  omega
theorem bcell {W w1 : World} (hb : Below W.heap.size W w1) : (∀ b o, b < W.heap.size → w1.cell? ⟨b, o, none⟩ = W.cell? ⟨b, o, none⟩) ∧ (∀ b o, b < W.heap.size → w1.frozen? ⟨b, o, none⟩ = W.frozen? ⟨b, o, none⟩) :=
  ⟨fun b o h => hb.cell (p := ⟨b, o, none⟩) h, fun b o h => hb.frozen (p := ⟨b, o, none⟩) h⟩
theorem below_step {B S : Nat} {a W w1 : World} (hb : Below S W w1) (hs : B ≤ S) (h : Below B a W) : Below B a w1 := h.trans (hb.mono hs)
theorem below_drewN {B : Nat} {a w : World} (h : Below B a w) (n : Nat) : Below B a (w.drewN n) := ⟨h.os, h.tape, h.output, h.size, h.block⟩

theorem boxres {w w1 : World} {a b x y : Value} {t t' : TypeId} (hb : Below ((w.alloc (.cells #[a, b] t)).alloc (.cells #[x, y] t')).heap.size ((w.alloc (.cells #[a, b] t)).alloc (.cells #[x, y] t')) w1) (n : Nat) :
    (w1.drewN n).cell? ⟨w.heap.size, 0, none⟩ = some a ∧ (w1.drewN n).cell? ⟨w.heap.size, 1, none⟩ = some b ∧ (w1.drewN n).cell? ⟨w.heap.size + 1, 0, none⟩ = some x ∧ (w1.drewN n).cell? ⟨w.heap.size + 1, 1, none⟩ = some y ∧
    (w1.drewN n).frozen? ⟨w.heap.size + 1, 0, none⟩ = false ∧ (w1.drewN n).frozen? ⟨w.heap.size + 1, 1, none⟩ = false ∧ w.heap.size + 1 < (w1.drewN n).heap.size ∧ Below w.heap.size w (w1.drewN n) := by
  obtain ⟨hc, hf⟩ := bcell hb
  refine ⟨?_, ?_, ?_, ?_, ?_, ?_, ?_, ?_⟩
  · exact (hc w.heap.size 0 (by simp; omega)).trans (by simp [go_sem])
  · exact (hc w.heap.size 1 (by simp; omega)).trans (by simp [go_sem])
  · exact (hc (w.heap.size + 1) 0 (by simp)).trans (by simp [go_sem])
  · exact (hc (w.heap.size + 1) 1 (by simp)).trans (by simp [go_sem])
  · exact (hf (w.heap.size + 1) 0 (by simp)).trans (by simp [go_sem])
  · exact (hf (w.heap.size + 1) 1 (by simp)).trans (by simp [go_sem])
  · have := hb.size; simp at this; exact this
  · exact below_drewN (below_step hb (by simp; omega) (((Below.refl _ _).alloc (Nat.le_refl _) _).alloc (by simp) _)) n
def Bx (r : Nat) (x y : Value) (w' : World) : Prop := w'.cell? ⟨r, 0, none⟩ = some x ∧ w'.cell? ⟨r, 1, none⟩ = some y ∧ w'.frozen? ⟨r, 0, none⟩ = false ∧ w'.frozen? ⟨r, 1, none⟩ = false ∧ r < w'.heap.size
theorem Bx.below {r : Nat} {x y : Value} {W w1 : World} (h : Bx r x y W) (hb : Below W.heap.size W w1) : Bx r x y w1 := by
  obtain ⟨h1, h2, h3, h4, h5⟩ := h
  obtain ⟨hc, hf⟩ := bcell hb
  exact ⟨(hc r 0 h5).trans h1, (hc r 1 h5).trans h2, (hf r 0 h5).trans h3, (hf r 1 h5).trans h4, Nat.lt_of_lt_of_le h5 hb.size⟩
theorem Bx.new {x y : Value} {t : TypeId} {V w1 : World} (hb : Below (V.alloc (.cells #[x, y] t)).heap.size (V.alloc (.cells #[x, y] t)) w1) : Bx V.heap.size x y w1 :=
  Bx.below ⟨by simp [go_sem], by simp [go_sem], by simp [go_sem], by simp [go_sem], by simp⟩ hb
theorem Bx.newD {x y : Value} {t : TypeId} {V w1 : World} (hb : Below (V.drew.alloc (.cells #[x, y] t)).heap.size (V.drew.alloc (.cells #[x, y] t)) w1) : Bx V.heap.size x y w1 := (show Bx V.drew.heap.size x y w1 from Bx.new hb)
theorem Bx.set {r : Nat} {x y : Value} {W : World} (h : Bx r x y W) (x' y' : Value) : Bx r x' y' ((W.setCell ⟨r, 0, none⟩ x').setCell ⟨r, 1, none⟩ y') := by
  obtain ⟨h3, h4, h5, h6, h7⟩ := h
  have e : (W.setCell ⟨r, 0, none⟩ x').cell? ⟨r, 1, none⟩ = W.cell? ⟨r, 1, none⟩ := World.cell?_setCell_other _ _ _ _ (by simp)
  refine ⟨?_, ?_, ?_, ?_, ?_⟩
  · rw [World.cell?_setCell_other _ _ _ _ (by simp), World.cell?_setCell_same' _ _ _ (by rw [h3]; rfl)]
  · rw [World.cell?_setCell_same' _ _ _ (by rw [e, h4]; rfl)]
  · rw [World.frozen?_setCell, World.frozen?_setCell]; exact h5
  · rw [World.frozen?_setCell, World.frozen?_setCell]; exact h6
  · simpa [World.setCell] using h7
theorem Bx.alloc (V : World) (x y : Value) (t : TypeId) : Bx V.heap.size x y (V.alloc (.cells #[x, y] t)) := ⟨by simp [go_sem], by simp [go_sem], by simp [go_sem], by simp [go_sem], by simp⟩
theorem Bx.re {r : Nat} {x y : Value} {V : World} {o o' : Obj} (h : Bx r x y (V.alloc o)) (hr : r < V.heap.size) : Bx r x y (V.alloc o') := by
  obtain ⟨h1, h2, h3, h4, h5⟩ := h
  obtain ⟨hc, hf⟩ := bcell ((Below.refl V.heap.size V).alloc (Nat.le_refl _) o)
  obtain ⟨hc', hf'⟩ := bcell ((Below.refl V.heap.size V).alloc (Nat.le_refl _) o')
  exact ⟨(hc' r 0 hr).trans ((hc r 0 hr).symm.trans h1), (hc' r 1 hr).trans ((hc r 1 hr).symm.trans h2), (hf' r 0 hr).trans ((hf r 0 hr).symm.trans h3), (hf' r 1 hr).trans ((hf r 1 hr).symm.trans h4), by simp at h5 ⊢; omega⟩
theorem Bx.far {r q : Nat} {x y x' y' : Value} {V : World} (h : Bx r x y V) (hr : r < q) : Bx r x y ((V.setCell ⟨q, 0, none⟩ x').setCell ⟨q, 1, none⟩ y') := by
  have hb : Below (r + 1) V ((V.setCell ⟨q, 0, none⟩ x').setCell ⟨q, 1, none⟩ y') := ((Below.refl _ _).setCell (by show _ ≤ q; omega) _).setCell (by show _ ≤ q; omega) _
  obtain ⟨h1, h2, h3, h4, h5⟩ := h
  have hc := fun b o hb' => hb.cell (p := ⟨b, o, none⟩) hb'
  have hf := fun b o hb' => hb.frozen (p := ⟨b, o, none⟩) hb'
  exact ⟨(hc r 0 (by show r < _; omega)).trans h1, (hc r 1 (by show r < _; omega)).trans h2, (hf r 0 (by show r < _; omega)).trans h3, (hf r 1 (by show r < _; omega)).trans h4, Nat.lt_of_lt_of_le h5 hb.size⟩
theorem Bx.alloc' {r : Nat} {x y : Value} {W : World} (h : Bx r x y W) (o : Obj) : Bx r x y (W.alloc o) := Bx.below h ((Below.refl _ _).alloc (Nat.le_refl _) _)
theorem Bx.drew {r : Nat} {x y : Value} {W : World} (h : Bx r x y W) : Bx r x y W.drew := Bx.below h (Below.refl _ _).drew
def disc (A B : Int) : Int := 4 * A * A * A + 27 * B * B
theorem disc_bd {A B : Int} (hA : -1000 ≤ A ∧ A ≤ 1000) (hB : -10000 ≤ B ∧ B ≤ 10000) :
    (-4000000 ≤ 4 * A * A ∧ 4 * A * A ≤ 4000000) ∧ (-4000000000 ≤ 4 * A * A * A ∧ 4 * A * A * A ≤ 4000000000) ∧ (-2700000000 ≤ 27 * B * B ∧ 27 * B * B ≤ 2700000000) := by
  have h1 := mulb (x := 4 * A) (y := A) 4000 1000 (by omega) hA
  have h2 := mulb (x := 4 * A * A) (y := A) 4000000 1000 (by omega) hA
  have h3 := mulb (x := 27 * B) (y := B) 270000 10000 (by omega) hB
  omega
def curveB (A B : Int) : Bool := inB A (-1000) 1000 && inB B (-10000) 10000 && !(disc A B == 0)
theorem c_ecDisc (A B : Int) (hA : -1000 ≤ A ∧ A ≤ 1000) (hB : -10000 ≤ B ∧ B ≤ 10000) (w : World) :
    Calls Tryz.prog 73 #[.agg #[.int .i64 A, .int .i64 B]] w fun e w' => e = .returned (.int .i64 (disc A B)) ∧ Below w.heap.size w w' := by
  obtain ⟨h1, h2, h3⟩ := disc_bd hA hB
  go_enter Tryz.func73, Tryz.ntmps73
  go_wp2
  go_ret
  exact ⟨rfl, (Below.refl _ _).alloc (Nat.le_refl _) _⟩
theorem c_core (A B : Int) (hA : -1000 ≤ A ∧ A ≤ 1000) (hB : -10000 ≤ B ∧ B ≤ 10000) (w : World) :
    Calls Tryz.prog 75 #[.agg #[.int .i64 A, .int .i64 B]] w fun e w' => e = .returned (.int .i64 (disc A B)) ∧ Below w.heap.size w w' := by
  obtain ⟨h1, h2, h3⟩ := disc_bd hA hB
  go_enter Tryz.func75, Tryz.ntmps75
  go_wp2
  go_ret
  exact ⟨rfl, (Below.refl _ _).alloc (Nat.le_refl _) _⟩
theorem c_ecGood (A B : Int) (w : World) :
    Calls Tryz.prog 41 #[.agg #[.int .i64 A, .int .i64 B]] w fun e w' => e = .returned (.bool (curveB A B)) ∧ Below w.heap.size w w' := by
  unfold curveB
  cases h1 : inB A (-1000) 1000
  · go_enter Tryz.func41, Tryz.ntmps41
    go_wp2_with ((go_at_call 55; refine (c_l1In _ _ _ _).mono ?_; rintro e w' ⟨rfl, rfl⟩))
    go_ret
    exact ⟨rfl, (Below.refl _ _).alloc (Nat.le_refl _) _⟩
  · cases h2 : inB B (-10000) 10000
    · go_enter Tryz.func41, Tryz.ntmps41
      go_wp2_with ((go_at_call 55; refine (c_l1In _ _ _ _).mono ?_; rintro e w' ⟨rfl, rfl⟩))
      go_ret
      exact ⟨rfl, (Below.refl _ _).alloc (Nat.le_refl _) _⟩
    · have hA := inB_true h1
      have hB := inB_true h2
      go_enter Tryz.func41, Tryz.ntmps41
      go_wp2_with (first | (go_at_call 55; refine (c_l1In _ _ _ _).mono ?_; rintro e w' ⟨rfl, rfl⟩) | (go_at_call 73; refine (c_ecDisc _ _ hA hB _).mono ?_; rintro e w1 ⟨rfl, hb1⟩; obtain ⟨hc1, hf1⟩ := bcell hb1; have hz1 := hb1.size; (try simp only [World.size_alloc] at hz1); (try (have hy1 : w.heap.size < w1.heap.size := by omega)); (try (have hx1 := Nat.lt_of_succ_le hz1)); (try (have hv1 := Nat.lt_of_succ_le (Nat.le_of_lt hx1)))))
      go_ret
      exact ⟨rfl, below_step hb1 (by simp) ((Below.refl _ _).alloc (Nat.le_refl _) _)⟩
theorem c_isCurve (A B : Int) (w : World) :
    Calls Tryz.prog 46 #[.agg #[.int .i64 A, .int .i64 B]] w fun e w' => e = .returned (.bool (curveB A B)) ∧ Below w.heap.size w w' := by
  unfold curveB
  cases h1 : inB A (-1000) 1000
  · go_enter Tryz.func46, Tryz.ntmps46
    go_wp2_with ((go_at_call 53; refine (c_inside _ _ _ _).mono ?_; rintro e w' ⟨rfl, rfl⟩))
    go_ret
    exact ⟨rfl, (Below.refl _ _).alloc (Nat.le_refl _) _⟩
  · cases h2 : inB B (-10000) 10000
    · go_enter Tryz.func46, Tryz.ntmps46
      go_wp2_with ((go_at_call 53; refine (c_inside _ _ _ _).mono ?_; rintro e w' ⟨rfl, rfl⟩))
      go_ret
      exact ⟨rfl, (Below.refl _ _).alloc (Nat.le_refl _) _⟩
    · have hA := inB_true h1
      have hB := inB_true h2
      go_enter Tryz.func46, Tryz.ntmps46
      go_wp2_with (first | (go_at_call 53; refine (c_inside _ _ _ _).mono ?_; rintro e w' ⟨rfl, rfl⟩) | (go_at_call 75; refine (c_core _ _ hA hB _).mono ?_; rintro e w1 ⟨rfl, hb1⟩; obtain ⟨hc1, hf1⟩ := bcell hb1; have hz1 := hb1.size; (try simp only [World.size_alloc] at hz1); (try (have hy1 : w.heap.size < w1.heap.size := by omega)); (try (have hx1 := Nat.lt_of_succ_le hz1)); (try (have hv1 := Nat.lt_of_succ_le (Nat.le_of_lt hx1)))))
      go_ret
      exact ⟨rfl, below_step hb1 (by simp) ((Below.refl _ _).alloc (Nat.le_refl _) _)⟩
end Go.Proofs.YtpnpidepkfnofaaGreatDoor
