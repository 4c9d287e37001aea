/- Walks: the curves of a table. -/
import Derived.Test.YtilgeeaobdebhaaPrime
import Derived.Test.YtilgeeaobdebhaaEuler
import Derived.Deep.RegionHeld3
namespace Go.Proofs.Ytilgeeaobdebhaa
open Go.RowKit

theorem keep2 {w W w1 : World} {b B : Nat} {v0 v1 : Value} (h : W.cell? ⟨b, 0, none⟩ = some v0 ∧ W.cell? ⟨b, 1, none⟩ = some v1 ∧ b < W.heap.size ∧ B ≤ W.heap.size ∧ Below B w W) (hb : Below W.heap.size W w1) :
    w1.cell? ⟨b, 0, none⟩ = some v0 ∧ w1.cell? ⟨b, 1, none⟩ = some v1 ∧ b < w1.heap.size ∧ B ≤ w1.heap.size ∧ Below B w w1 :=
  ⟨(hb.cell (p := ⟨b, 0, none⟩) h.2.2.1).trans h.1, (hb.cell (p := ⟨b, 1, none⟩) h.2.2.1).trans h.2.1, Nat.lt_of_lt_of_le h.2.2.1 hb.size, Nat.le_trans h.2.2.2.1 hb.size, h.2.2.2.2.trans (hb.mono h.2.2.2.1)⟩
theorem keep2d {w W : World} {b B n : Nat} {v0 v1 : Value} (h : W.cell? ⟨b, 0, none⟩ = some v0 ∧ W.cell? ⟨b, 1, none⟩ = some v1 ∧ b < W.heap.size ∧ B ≤ W.heap.size ∧ Below B w W) :
    (W.drewN n).cell? ⟨b, 0, none⟩ = some v0 ∧ (W.drewN n).cell? ⟨b, 1, none⟩ = some v1 ∧ b < (W.drewN n).heap.size ∧ B ≤ (W.drewN n).heap.size ∧ Below B w (W.drewN n) :=
  ⟨h.1, h.2.1, h.2.2.1, h.2.2.2.1, below_drewN h.2.2.2.2 n⟩
theorem ret_int {k : IntKind} {a b : Int} (h : a = b) : Ending.returned (.int k a) = .returned (.int k b) := by rw [h]
def invV (p A B : Int) : Int := (6912 * A * A * A % p) * invM (disc A B) p % p
theorem cube_bd {A : Int} (h : 0 ≤ A) (h1 : A ≤ 1000) : (0 ≤ 6912 * A * A ∧ 6912 * A * A ≤ 6912000000) ∧ (0 ≤ 6912 * A * A * A ∧ 6912 * A * A * A ≤ 6912000000000) := by
  have e1 : 0 ≤ 6912 * A * A := Int.mul_nonneg (by omega) h
  have e2 : 6912 * A * A ≤ 6912000 * 1000 := Int.mul_le_mul (by omega) h1 h (by omega)
  have e3 : 6912 * A * A * A ≤ 6912000000 * 1000 := Int.mul_le_mul (by omega) h1 h (by omega)
  exact ⟨⟨e1, by omega⟩, Int.mul_nonneg e1 h, by omega⟩
theorem invM_bd (a p : Int) (h : 1 ≤ p) : 0 ≤ invM a p ∧ invM a p < p := powM_bd _ _ _ h
theorem mod_bd (a p : Int) (h : 1 ≤ p) : 0 ≤ a % p ∧ a % p < p := ⟨Int.emod_nonneg _ (by omega), Int.emod_lt_of_pos _ (by omega)⟩
set_option maxHeartbeats 1000000 in
theorem c_invariantModulo (p A B : Int) (hp : 2 ≤ p ∧ p ≤ 1000) (hA : 0 ≤ A ∧ A ≤ 1000) (hB : 0 ≤ B ∧ B ≤ 1000) (w : World) :
    Calls Try.prog 60 #[.int .i64 p, .agg #[.int .i64 A, .int .i64 B]] w fun e w' => e = .returned (.int .i64 (invV p A B)) ∧ Below w.heap.size w w' := by
  obtain ⟨h1, h2⟩ := cube_bd hA.1 hA.2
  have h3 := invM_bd (disc A B) p (by omega)
  have h4 := mod_bd (6912 * A * A * A) p (by omega)
  have hp0 : p ≠ 0 := by omega
  have hp1 : (p == 0) = false := by simpa using hp0
  have h5 := mul_bd (6912 * A * A * A % p) (invM (disc A B) p) p h4.1 (by omega) h3.1 (by omega) (by omega)
  go_enter Try.func60, Try.ntmps60
  go_wp2
  go_region_held3 (fun w' => w'.cell? ⟨w.heap.size, 0, none⟩ = some (.int .i64 A) ∧ w'.cell? ⟨w.heap.size, 1, none⟩ = some (.int .i64 B) ∧ w.heap.size < w'.heap.size ∧ w.heap.size ≤ w'.heap.size ∧ Below w.heap.size w w')
    (first | (exact keep2 (by assumption) (by assumption)) | (exact keep2d (by assumption)) | assumption | (exact ⟨by simp, by simp, by simp, by simp, ((Below.refl _ _).alloc (Nat.le_refl _) _).drew⟩))
    (first
      | (go_at_call 81; refine (c_modulo _ _ (by omega) (by omega) _).mono ?_; rintro e w' ⟨rfl, rfl⟩)
      | (go_at_call 72; refine (c_core _ _ (by omega) (by omega) _).mono ?_; rintro e w1 ⟨rfl, hb1⟩)
      | (go_at_call 82; refine (c_inverse _ _ (by omega) (by omega) _).mono ?_; rintro e w' ⟨rfl, kd, rfl⟩))
  all_goals go_wp2
  all_goals go_ret
  all_goals
    rename_i hS
    refine ⟨ret_int ?_, hS.2.2.2.2⟩
    unfold invV
    simp (disch := omega) only [IntWalk.i64_in, Int.tmod_eq_emod_of_nonneg]
set_option maxHeartbeats 1000000 in
theorem c_ctInvariant (p A B : Int) (hp : 2 ≤ p ∧ p ≤ 1000) (hA : 0 ≤ A ∧ A ≤ 1000) (hB : 0 ≤ B ∧ B ≤ 1000) (w : World) :
    Calls Try.prog 61 #[.int .i64 p, .agg #[.int .i64 A, .int .i64 B]] w fun e w' => e = .returned (.int .i64 (invV p A B)) ∧ Below w.heap.size w w' := by
  obtain ⟨h1, h2⟩ := cube_bd hA.1 hA.2
  have h3 := invM_bd (disc A B) p (by omega)
  have h4 := mod_bd (6912 * A * A * A) p (by omega)
  have hp0 : p ≠ 0 := by omega
  have hp1 : (p == 0) = false := by simpa using hp0
  have h5 := mul_bd (6912 * A * A * A % p) (invM (disc A B) p) p h4.1 (by omega) h3.1 (by omega) (by omega)
  go_enter Try.func61, Try.ntmps61
  go_wp2
  go_region_held3 (fun w' => w'.cell? ⟨w.heap.size, 0, none⟩ = some (.int .i64 A) ∧ w'.cell? ⟨w.heap.size, 1, none⟩ = some (.int .i64 B) ∧ w.heap.size < w'.heap.size ∧ w.heap.size ≤ w'.heap.size ∧ Below w.heap.size w w')
    (first | (exact keep2 (by assumption) (by assumption)) | (exact keep2d (by assumption)) | assumption | (exact ⟨by simp, by simp, by simp, by simp, ((Below.refl _ _).alloc (Nat.le_refl _) _).drew⟩) | (exact ⟨by simp, by simp, by simp, by simp, (((Below.refl _ _).alloc (Nat.le_refl _) _).alloc (by simp) _).drew⟩))
    (first
      | (go_at_call 83; refine (c_mdMod _ _ (by omega) (by omega) _).mono ?_; rintro e w' ⟨rfl, rfl⟩)
      | (go_at_call 85; refine (c_ecDisc _ _ (by omega) (by omega) _).mono ?_; rintro e w1 ⟨rfl, hb1⟩)
      | (go_at_call 84; refine (c_mdInverse _ _ (by omega) (by omega) _).mono ?_; rintro e w' ⟨rfl, rfl⟩))
  all_goals go_wp2
  all_goals go_ret
  all_goals
    rename_i hS
    refine ⟨ret_int ?_, hS.2.2.2.2⟩
    unfold invV
    simp (disch := omega) only [IntWalk.i64_in]
noncomputable def tabP (p : Int) : Bool := inB p 5 31 && primeB p
noncomputable def tabB (p A B : Int) : Bool := tabP p && inB A 0 (p - 1) && inB B 0 (p - 1) && !(disc A B % p == 0)
theorem tabP_of {p : Int} (h : tabP p = true) : 5 ≤ p ∧ p ≤ 31 ∧ primeB p = true := by unfold tabP at h; simp at h; exact ⟨(inB_true h.1).1, (inB_true h.1).2, h.2⟩
theorem tabB_of {p A B : Int} (h : tabB p A B = true) : (5 ≤ p ∧ p ≤ 31) ∧ primeB p = true ∧ (0 ≤ A ∧ A ≤ p - 1) ∧ (0 ≤ B ∧ B ≤ p - 1) := by
  unfold tabB at h; simp at h
  exact ⟨⟨(tabP_of h.1.1.1).1, (tabP_of h.1.1.1).2.1⟩, (tabP_of h.1.1.1).2.2, inB_true h.1.1.2, inB_true h.1.2⟩
theorem c_ctPrime (p : Int) (w : World) :
    Calls Try.prog 39 #[.int .i64 p] w fun e w' => e = .returned (.bool (tabP p)) ∧ w = w' := by
  unfold tabP
  cases h1 : (inB p 2 997 && primeB p)
  · have h2 : (inB p 5 31 && primeB p) = false := by
      cases h3 : (inB p 5 31 && primeB p)
      · rfl
      · exfalso
        simp at h1 h3
        have := inB_true h3.1
        have := h1 (inB_mk (by omega) (by omega))
        rw [this] at h3; cases h3.2
    rw [h2]
    clear h2
    go_enter Try.func39, Try.ntmps39
    go_wp2_with ((go_at_call 68; refine (c_mdPrime _ _).mono ?_; rintro e w' ⟨rfl, rfl⟩))
    go_ret
    exact ⟨rfl, rfl⟩
  · have h2 : primeB p = true := by simp at h1; exact h1.2
    have h3 : inB p 2 997 = true := by simp at h1; exact h1.1
    clear h1
    go_enter Try.func39, Try.ntmps39
    go_wp2_with (first | (go_at_call 68; refine (c_mdPrime _ _).mono ?_; rintro e w' ⟨rfl, rfl⟩) | (go_at_call 65; refine (c_l1In _ _ _ _).mono ?_; rintro e w' ⟨rfl, rfl⟩))
    go_ret
    exact ⟨by rw [h2]; simp, rfl⟩
theorem c_isTablePrime (p : Int) (w : World) :
    Calls Try.prog 36 #[.int .i64 p] w fun e w' => e = .returned (.bool (tabP p)) ∧ w = w' := by
  unfold tabP
  cases h1 : inB p 5 31
  · go_enter Try.func36, Try.ntmps36
    go_wp2_with ((go_at_call 63; refine (c_inside _ _ _ _).mono ?_; rintro e w' ⟨rfl, rfl⟩))
    go_ret
    exact ⟨rfl, rfl⟩
  · have hp := inB_true h1
    go_enter Try.func36, Try.ntmps36
    go_wp2_with (first | (go_at_call 63; refine (c_inside _ _ _ _).mono ?_; rintro e w' ⟨rfl, rfl⟩) | (go_at_call 67; refine (c_isPrime _ (by omega) _).mono ?_; rintro e w' ⟨rfl, rfl⟩))
    go_ret
    exact ⟨rfl, rfl⟩
theorem c_ctIn (p A B : Int) (hp : 5 ≤ p ∧ p ≤ 31) (w : World) :
    Calls Try.prog 69 #[.int .i64 p, .agg #[.int .i64 A, .int .i64 B]] w fun e w' => e = .returned (.bool (inB A 0 (p - 1) && inB B 0 (p - 1) && !(disc A B % p == 0))) ∧ Below w.heap.size w w' := by
  cases h1 : inB A 0 (p - 1)
  · go_enter Try.func69, Try.ntmps69
    go_wp2_with ((go_at_call 65; refine (c_l1In _ _ _ _).mono ?_; rintro e w' ⟨rfl, rfl⟩))
    go_ret
    refine ⟨rfl, ?_⟩
    (repeat' (first | (with_reducible exact Below.refl _ _) | (with_reducible refine below_step (by assumption) ?_ ?_) | (with_reducible refine Below.alloc ?_ ?_ _) | (with_reducible refine Below.setCell ?_ ?_ _) | (with_reducible refine below_drewN ?_ _) | (with_reducible refine Below.drew ?_) | omega | (simp; omega) | (simp; done)))
  · have hA := inB_true h1
    cases h2 : inB B 0 (p - 1)
    · go_enter Try.func69, Try.ntmps69
      go_wp2_with ((go_at_call 65; refine (c_l1In _ _ _ _).mono ?_; rintro e w' ⟨rfl, rfl⟩))
      go_ret
      refine ⟨rfl, ?_⟩
      (repeat' (first | (with_reducible exact Below.refl _ _) | (with_reducible refine below_step (by assumption) ?_ ?_) | (with_reducible refine Below.alloc ?_ ?_ _) | (with_reducible refine Below.setCell ?_ ?_ _) | (with_reducible refine below_drewN ?_ _) | (with_reducible refine Below.drew ?_) | omega | (simp; omega) | (simp; done)))
    · have hB := inB_true h2
      have hd := disc_range (A := A) (B := B) (by omega) (by omega)
      go_enter Try.func69, Try.ntmps69
      go_wp2_with (first | (go_at_call 65; refine (c_l1In _ _ _ _).mono ?_; rintro e w' ⟨rfl, rfl⟩) | (go_at_call 85; refine (c_ecDisc _ _ (by omega) (by omega) _).mono ?_; rintro e w1 ⟨rfl, hb1⟩; obtain ⟨hc1, hf1⟩ := bcell hb1; have hz1 := hb1.size; (try simp only [World.size_alloc] at hz1); (try (have hy1 : w.heap.size < w1.heap.size := by omega)); (try (have hx1 := Nat.lt_of_succ_le hz1)); (try (have hv1 := Nat.lt_of_succ_le (Nat.le_of_lt hx1)))) | (go_at_call 83; refine (c_mdMod _ _ (by omega) (by omega) _).mono ?_; rintro e w' ⟨rfl, rfl⟩))
      go_ret
      refine ⟨rfl, ?_⟩
      (repeat' (first | (with_reducible exact Below.refl _ _) | (with_reducible refine below_step (by assumption) ?_ ?_) | (with_reducible refine Below.alloc ?_ ?_ _) | (with_reducible refine Below.setCell ?_ ?_ _) | (with_reducible refine below_drewN ?_ _) | (with_reducible refine Below.drew ?_) | omega | (simp; omega) | (simp; done)))
theorem c_ctAsked (p A B : Int) (w : World) :
    Calls Try.prog 52 #[.int .i64 p, .agg #[.int .i64 A, .int .i64 B]] w fun e w' => e = .returned (.bool (tabB p A B)) ∧ Below w.heap.size w w' := by
  unfold tabB
  cases h1 : tabP p
  · go_enter Try.func52, Try.ntmps52
    go_wp2_with ((go_at_call 39; refine (c_ctPrime _ _).mono ?_; rintro e w' ⟨rfl, rfl⟩))
    go_ret
    refine ⟨rfl, ?_⟩
    (repeat' (first | (with_reducible exact Below.refl _ _) | (with_reducible refine below_step (by assumption) ?_ ?_) | (with_reducible refine Below.alloc ?_ ?_ _) | (with_reducible refine Below.setCell ?_ ?_ _) | (with_reducible refine below_drewN ?_ _) | (with_reducible refine Below.drew ?_) | omega | (simp; omega) | (simp; done)))
  · have hp := tabP_of h1
    go_enter Try.func52, Try.ntmps52
    go_wp2_with (first | (go_at_call 39; refine (c_ctPrime _ _).mono ?_; rintro e w' ⟨rfl, rfl⟩) | (go_at_call 69; refine (c_ctIn _ _ _ (by omega) _).mono ?_; rintro e w1 ⟨rfl, hb1⟩; obtain ⟨hc1, hf1⟩ := bcell hb1; have hz1 := hb1.size; (try simp only [World.size_alloc] at hz1); (try (have hy1 : w.heap.size < w1.heap.size := by omega)); (try (have hx1 := Nat.lt_of_succ_le hz1)); (try (have hv1 := Nat.lt_of_succ_le (Nat.le_of_lt hx1)))))
    go_ret
    refine ⟨by simp, ?_⟩
    (repeat' (first | (with_reducible exact Below.refl _ _) | (with_reducible refine below_step (by assumption) ?_ ?_) | (with_reducible refine Below.alloc ?_ ?_ _) | (with_reducible refine Below.setCell ?_ ?_ _) | (with_reducible refine below_drewN ?_ _) | (with_reducible refine Below.drew ?_) | omega | (simp; omega) | (simp; done)))
theorem c_isTableCurve (p A B : Int) (w : World) :
    Calls Try.prog 50 #[.int .i64 p, .agg #[.int .i64 A, .int .i64 B]] w fun e w' => e = .returned (.bool (tabB p A B)) ∧ Below w.heap.size w w' := by
  unfold tabB
  cases h0 : tabP p
  · go_enter Try.func50, Try.ntmps50
    go_wp2_with ((go_at_call 36; refine (c_isTablePrime _ _).mono ?_; rintro e w' ⟨rfl, rfl⟩))
    go_ret
    refine ⟨rfl, ?_⟩
    (repeat' (first | (with_reducible exact Below.refl _ _) | (with_reducible refine below_step (by assumption) ?_ ?_) | (with_reducible refine Below.alloc ?_ ?_ _) | (with_reducible refine Below.setCell ?_ ?_ _) | (with_reducible refine below_drewN ?_ _) | (with_reducible refine Below.drew ?_) | omega | (simp; omega) | (simp; done)))
  · have hp := tabP_of h0
    cases h1 : inB A 0 (p - 1)
    · go_enter Try.func50, Try.ntmps50
      go_wp2_with (first | (go_at_call 36; refine (c_isTablePrime _ _).mono ?_; rintro e w' ⟨rfl, rfl⟩) | (go_at_call 63; refine (c_inside _ _ _ _).mono ?_; rintro e w' ⟨rfl, rfl⟩))
      go_ret
      refine ⟨rfl, ?_⟩
      (repeat' (first | (with_reducible exact Below.refl _ _) | (with_reducible refine below_step (by assumption) ?_ ?_) | (with_reducible refine Below.alloc ?_ ?_ _) | (with_reducible refine Below.setCell ?_ ?_ _) | (with_reducible refine below_drewN ?_ _) | (with_reducible refine Below.drew ?_) | omega | (simp; omega) | (simp; done)))
    · have hA := inB_true h1
      cases h2 : inB B 0 (p - 1)
      · go_enter Try.func50, Try.ntmps50
        go_wp2_with (first | (go_at_call 36; refine (c_isTablePrime _ _).mono ?_; rintro e w' ⟨rfl, rfl⟩) | (go_at_call 63; refine (c_inside _ _ _ _).mono ?_; rintro e w' ⟨rfl, rfl⟩))
        go_ret
        refine ⟨rfl, ?_⟩
        (repeat' (first | (with_reducible exact Below.refl _ _) | (with_reducible refine below_step (by assumption) ?_ ?_) | (with_reducible refine Below.alloc ?_ ?_ _) | (with_reducible refine Below.setCell ?_ ?_ _) | (with_reducible refine below_drewN ?_ _) | (with_reducible refine Below.drew ?_) | omega | (simp; omega) | (simp; done)))
      · have hB := inB_true h2
        have HT := Lib.hid (tmod_bne (disc A B) p)
        go_enter Try.func50, Try.ntmps50
        go_wp2_with (first | (go_at_call 36; refine (c_isTablePrime _ _).mono ?_; rintro e w' ⟨rfl, rfl⟩) | (go_at_call 63; refine (c_inside _ _ _ _).mono ?_; rintro e w' ⟨rfl, rfl⟩) | (go_at_call 72; refine (c_core _ _ (by omega) (by omega) _).mono ?_; rintro e w1 ⟨rfl, hb1⟩; obtain ⟨hc1, hf1⟩ := bcell hb1; have hz1 := hb1.size; (try simp only [World.size_alloc] at hz1); (try (have hy1 : w.heap.size < w1.heap.size := by omega)); (try (have hx1 := Nat.lt_of_succ_le hz1)); (try (have hv1 := Nat.lt_of_succ_le (Nat.le_of_lt hx1)))))
        go_ret
        refine ⟨by rw [← HT.out]; rfl, ?_⟩
        (repeat' (first | (with_reducible exact Below.refl _ _) | (with_reducible refine below_step (by assumption) ?_ ?_) | (with_reducible refine Below.alloc ?_ ?_ _) | (with_reducible refine Below.setCell ?_ ?_ _) | (with_reducible refine below_drewN ?_ _) | (with_reducible refine Below.drew ?_) | omega | (simp; omega) | (simp; done)))
theorem c_sInvariantModulo (p A B : Int) (w : World) :
    Calls Try.prog 28 #[.int .i64 p, .agg #[.int .i64 A, .int .i64 B]] w fun e w' => e = .returned (.tuple #[.int .i64 (if tabB p A B then invV p A B else 0), .bool (tabB p A B)]) ∧ Below w.heap.size w w' := by
  cases h1 : tabB p A B
  · go_enter Try.func28, Try.ntmps28
    go_wp2_with ((go_at_call 52; refine (c_ctAsked _ _ _ _).mono ?_; rintro e w1 ⟨rfl, hb1⟩; obtain ⟨hc1, hf1⟩ := bcell hb1; have hz1 := hb1.size; (try simp only [World.size_alloc] at hz1); (try (have hy1 : w.heap.size < w1.heap.size := by omega)); (try (have hx1 := Nat.lt_of_succ_le hz1)); (try (have hv1 := Nat.lt_of_succ_le (Nat.le_of_lt hx1)))))
    go_ret2
    refine ⟨rfl, ?_⟩
    (repeat' (first | (with_reducible exact Below.refl _ _) | (with_reducible refine below_step (by assumption) ?_ ?_) | (with_reducible refine Below.alloc ?_ ?_ _) | (with_reducible refine Below.setCell ?_ ?_ _) | (with_reducible refine below_drewN ?_ _) | (with_reducible refine Below.drew ?_) | omega | (simp; omega) | (simp; done)))
  · have hb := tabB_of h1
    go_enter Try.func28, Try.ntmps28
    go_wp2_with (first | (go_at_call 52; refine (c_ctAsked _ _ _ _).mono ?_; rintro e w1 ⟨rfl, hb1⟩; obtain ⟨hc1, hf1⟩ := bcell hb1; have hz1 := hb1.size; (try simp only [World.size_alloc] at hz1); (try (have hy1 : w.heap.size < w1.heap.size := by omega)); (try (have hx1 := Nat.lt_of_succ_le hz1)); (try (have hv1 := Nat.lt_of_succ_le (Nat.le_of_lt hx1)))) | (go_at_call 61; refine (c_ctInvariant _ _ _ (by omega) (by omega) (by omega) _).mono ?_; rintro e w2 ⟨rfl, hb2⟩; obtain ⟨hc2, hf2⟩ := bcell hb2; have hz2 := hb2.size; (try simp only [World.size_alloc] at hz2); (try (have hy2 : w.heap.size < w2.heap.size := by omega)); (try (have hx2 := Nat.lt_of_succ_le hz2)); (try (have hv2 := Nat.lt_of_succ_le (Nat.le_of_lt hx2))); (try (have hy2_1 : w1.heap.size < w2.heap.size := by omega))))
    go_ret2
    refine ⟨rfl, ?_⟩
    (repeat' (first | (with_reducible exact Below.refl _ _) | (with_reducible refine below_step (by assumption) ?_ ?_) | (with_reducible refine Below.alloc ?_ ?_ _) | (with_reducible refine Below.setCell ?_ ?_ _) | (with_reducible refine below_drewN ?_ _) | (with_reducible refine Below.drew ?_) | omega | (simp; omega) | (simp; done)))
theorem c_iInvariantModulo (p A B : Int) (w : World) :
    Calls Try.prog 27 #[.int .i64 p, .agg #[.int .i64 A, .int .i64 B]] w fun e w' => e = .returned (.tuple #[.int .i64 (if tabB p A B then invV p A B else 0), .bool (tabB p A B)]) ∧ Below w.heap.size w w' := by
  cases h1 : tabB p A B
  · go_enter Try.func27, Try.ntmps27
    go_wp2_with ((go_at_call 50; refine (c_isTableCurve _ _ _ _).mono ?_; rintro e w1 ⟨rfl, hb1⟩; obtain ⟨hc1, hf1⟩ := bcell hb1; have hz1 := hb1.size; (try simp only [World.size_alloc] at hz1); (try (have hy1 : w.heap.size < w1.heap.size := by omega)); (try (have hx1 := Nat.lt_of_succ_le hz1)); (try (have hv1 := Nat.lt_of_succ_le (Nat.le_of_lt hx1)))))
    go_ret2
    refine ⟨rfl, ?_⟩
    (repeat' (first | (with_reducible exact Below.refl _ _) | (with_reducible refine below_step (by assumption) ?_ ?_) | (with_reducible refine Below.alloc ?_ ?_ _) | (with_reducible refine Below.setCell ?_ ?_ _) | (with_reducible refine below_drewN ?_ _) | (with_reducible refine Below.drew ?_) | omega | (simp; omega) | (simp; done)))
  · have hb := tabB_of h1
    go_enter Try.func27, Try.ntmps27
    go_wp2_with (first | (go_at_call 50; refine (c_isTableCurve _ _ _ _).mono ?_; rintro e w1 ⟨rfl, hb1⟩; obtain ⟨hc1, hf1⟩ := bcell hb1; have hz1 := hb1.size; (try simp only [World.size_alloc] at hz1); (try (have hy1 : w.heap.size < w1.heap.size := by omega)); (try (have hx1 := Nat.lt_of_succ_le hz1)); (try (have hv1 := Nat.lt_of_succ_le (Nat.le_of_lt hx1)))) | (go_at_call 60; refine (c_invariantModulo _ _ _ (by omega) (by omega) (by omega) _).mono ?_; rintro e w2 ⟨rfl, hb2⟩; obtain ⟨hc2, hf2⟩ := bcell hb2; have hz2 := hb2.size; (try simp only [World.size_alloc] at hz2); (try (have hy2 : w.heap.size < w2.heap.size := by omega)); (try (have hx2 := Nat.lt_of_succ_le hz2)); (try (have hv2 := Nat.lt_of_succ_le (Nat.le_of_lt hx2))); (try (have hy2_1 : w1.heap.size < w2.heap.size := by omega))))
    go_ret2
    refine ⟨rfl, ?_⟩
    (repeat' (first | (with_reducible exact Below.refl _ _) | (with_reducible refine below_step (by assumption) ?_ ?_) | (with_reducible refine Below.alloc ?_ ?_ _) | (with_reducible refine Below.setCell ?_ ?_ _) | (with_reducible refine below_drewN ?_ _) | (with_reducible refine Below.drew ?_) | omega | (simp; omega) | (simp; done)))
end Go.Proofs.Ytilgeeaobdebhaa
