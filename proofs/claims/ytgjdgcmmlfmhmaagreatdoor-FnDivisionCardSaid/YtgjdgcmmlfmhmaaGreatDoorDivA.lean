/- Walks: the right side of the equation, asked-for residues, LiesOnCurve. -/
import Derived.Test.YtgjdgcmmlfmhmaaGreatDoorTable
import Derived.Test.YtgjdgcmmlfmhmaaGreatDoorCong
namespace Go.Proofs.YtgjdgcmmlfmhmaaGreatDoor
open Go.RowKit

def fV (A B x : Int) : Int := x * x * x + A * x + B
theorem fV_mod (A B p x : Int) : (x * x % p * x + A * x + B) % p = fV A B x % p :=
  (((Cg.mod' (Cg.refl p _)).mul (Cg.refl p x)).add (Cg.refl p (A * x))).add (Cg.refl p B)
theorem fV_bd {A p x : Int} (hA : -1000 ≤ A ∧ A ≤ 1000) (hx : 0 ≤ x ∧ x ≤ 1000) (hp : 1 ≤ p ∧ p ≤ 1000) : (0 ≤ x * x ∧ x * x ≤ 1000000) ∧ (0 ≤ x * x * x ∧ x * x * x ≤ 1000000000) ∧ (-1000000 ≤ A * x ∧ A * x ≤ 1000000) ∧ (0 ≤ x * x % p ∧ x * x % p < p) ∧ (0 ≤ x * x % p * x ∧ x * x % p * x ≤ 1000000) := by
  have h1 := mulb (x := x) (y := x) 1000 1000 (by omega) (by omega)
  have h0 : 0 ≤ x * x := Int.mul_nonneg hx.1 hx.1
  have h2 := mulb (x := x * x) (y := x) 1000000 1000 (by omega) (by omega)
  have h3 := mulb (x := A) (y := x) 1000 1000 (by omega) (by omega)
  have h4 := mod_bd (x * x) p (by omega)
  have h5 := mulb (x := x * x % p) (y := x) 1000 1000 (by omega) (by omega)
  have h6 : 0 ≤ x * x * x := Int.mul_nonneg h0 hx.1
  have h7 : 0 ≤ x * x % p * x := Int.mul_nonneg h4.1 hx.1
  omega
theorem powM_mod (a n p : Int) : powM (a % p) n p = powM a n p := pow_mod _ _ _
theorem symI_mod (a p : Int) : symI (a % p) p = symI a p := by unfold symI; simp only [powM_mod]
theorem symS_mod (a p : Int) : symS (a % p) p = symS a p := by unfold symS; simp only [powM_mod]
theorem invM_mod (a p : Int) : invM (a % p) p = invM a p := powM_mod _ _ _
theorem c_rightSide (A B p x : Int) (hA : -1000 ≤ A ∧ A ≤ 1000) (hB : -10000 ≤ B ∧ B ≤ 10000) (hp : 1 ≤ p ∧ p ≤ 1000) (hx : 0 ≤ x ∧ x ≤ 1000) (w : World) :
    Calls Tryz.prog 30 #[.agg #[.int .i64 A, .int .i64 B], .int .i64 p, .int .i64 x] w fun e w' => e = .returned (.int .i64 (fV A B x % p)) ∧ Below w.heap.size w w' := by
  obtain ⟨b1, b2, b3, b4, b5⟩ := fV_bd (p := p) hA hx hp
  have hp0 : p ≠ 0 := by omega
  have hp1 : (p == 0) = false := by simpa using hp0
  have HF := Lib.hid (fV_mod A B p x)
  go_enter Tryz.func30, Tryz.ntmps30
  go_wp2
  go_region_held3 (fun w' => w'.cell? ⟨w.heap.size, 0, none⟩ = some (.int .i64 A) ∧ w'.cell? ⟨w.heap.size, 1, none⟩ = some (.int .i64 B) ∧ w.heap.size < w'.heap.size ∧ w.heap.size ≤ w'.heap.size ∧ Below w.heap.size w w')
    (first | (exact keep2 (by assumption) (by assumption)) | (exact keep2d (by assumption)) | assumption | (exact ⟨by simp, by simp, by simp, by simp, ((Below.refl _ _).alloc (Nat.le_refl _) _).drew⟩) | (exact ⟨by simp, by simp, by simp, by simp, (((Below.refl _ _).alloc (Nat.le_refl _) _).alloc (by simp) _).drew⟩))
    (first
      | (go_at_call 32; refine (c_modulo _ _ (by omega) (by omega) _).mono ?_; rintro e w' ⟨rfl, rfl⟩))
  all_goals go_wp2
  all_goals go_ret
  all_goals
    rename_i hS
    refine ⟨ret_int ?_, hS.2.2.2.2⟩
    rw [← HF.out]
    simp (disch := omega) only [IntWalk.i64_in, Int.tmod_eq_emod_of_nonneg]
theorem c_dpF (A B x : Int) (hA : -1000 ≤ A ∧ A ≤ 1000) (hB : -10000 ≤ B ∧ B ≤ 10000) (hx : 0 ≤ x ∧ x ≤ 1000) (w : World) :
    Calls Tryz.prog 37 #[.agg #[.int .i64 A, .int .i64 B], .int .i64 x] w fun e w' => e = .returned (.int .i64 (fV A B x)) ∧ Below w.heap.size w w' := by
  obtain ⟨b1, b2, b3, b4, b5⟩ := fV_bd (p := 1) hA hx (by omega)
  go_enter Tryz.func37, Tryz.ntmps37
  go_wp2
  go_ret
  refine ⟨rfl, ?_⟩
  (repeat' (first | (with_reducible exact Below.refl _ _) | (with_reducible refine below_step (by assumption) ?_ ?_) | (with_reducible refine Below.alloc ?_ ?_ _) | (with_reducible refine Below.setCell ?_ ?_ _) | (with_reducible refine below_drewN ?_ _) | (with_reducible refine Below.drew ?_) | omega | (simp; omega) | (simp; done)))
noncomputable def fitB (A B p x : Int) : Bool := curveB A B && goodP A B p && inB x 0 (p - 1)
theorem curve_of {A B : Int} (h0 : curveB A B = true) : (-1000 ≤ A ∧ A ≤ 1000) ∧ (-10000 ≤ B ∧ B ≤ 10000) := by
  unfold curveB at h0; simp at h0; exact ⟨inB_true h0.1.1, inB_true h0.1.2⟩
theorem good_of {A B p : Int} (h : goodP A B p = true) : (5 ≤ p ∧ p ≤ 997) ∧ primeB p = true := by
  unfold goodP at h; simp at h; exact ⟨inB_true h.1.1, h.1.2⟩
theorem fit_of {A B p x : Int} (h : fitB A B p x = true) : (-1000 ≤ A ∧ A ≤ 1000) ∧ (-10000 ≤ B ∧ B ≤ 10000) ∧ (5 ≤ p ∧ p ≤ 997) ∧ primeB p = true ∧ (0 ≤ x ∧ x ≤ p - 1) := by
  unfold fitB at h; simp at h
  exact ⟨(curve_of h.1.1).1, (curve_of h.1.1).2, (good_of h.1.2).1, (good_of h.1.2).2, inB_true h.2⟩
theorem c_divisionFits (A B p x : Int) (w : World) :
    Calls Tryz.prog 26 #[.agg #[.int .i64 A, .int .i64 B], .int .i64 p, .int .i64 x] w fun e w' => e = .returned (.bool (fitB A B p x)) ∧ Below w.heap.size w w' := by
  unfold fitB
  cases h0 : curveB A B
  · go_enter Tryz.func26, Tryz.ntmps26
    go_wp2_with ((go_at_call 44; refine (c_isCurve _ _ _).mono ?_; rintro e w1 ⟨rfl, hb1⟩; obtain ⟨hc1, hf1⟩ := bcell hb1; have hz1 := hb1.size; (try simp only [World.size_alloc] at hz1); (try (have hy1 : w.heap.size < w1.heap.size := by omega)); (try (have hx1 := Nat.lt_of_succ_le hz1)); (try (have hv1 := Nat.lt_of_succ_le (Nat.le_of_lt hx1)))))
    go_ret
    refine ⟨rfl, ?_⟩
    (repeat' (first | (with_reducible exact Below.refl _ _) | (with_reducible refine below_step (by assumption) ?_ ?_) | (with_reducible refine Below.alloc ?_ ?_ _) | (with_reducible refine Below.setCell ?_ ?_ _) | (with_reducible refine below_drewN ?_ _) | (with_reducible refine Below.drew ?_) | omega | (simp; omega) | (simp; done)))
  · obtain ⟨hA, hB⟩ := curve_of h0
    cases h1 : goodP A B p
    · go_enter Tryz.func26, Tryz.ntmps26
      go_wp2_with (first | (go_at_call 44; refine (c_isCurve _ _ _).mono ?_; rintro e w1 ⟨rfl, hb1⟩; obtain ⟨hc1, hf1⟩ := bcell hb1; have hz1 := hb1.size; (try simp only [World.size_alloc] at hz1); (try (have hy1 : w.heap.size < w1.heap.size := by omega)); (try (have hx1 := Nat.lt_of_succ_le hz1)); (try (have hv1 := Nat.lt_of_succ_le (Nat.le_of_lt hx1)))) | (go_at_call 65; refine (c_isGood _ _ _ hA hB _).mono ?_; rintro e w2 ⟨rfl, hb2⟩; obtain ⟨hc2, hf2⟩ := bcell hb2; have hz2 := hb2.size; (try simp only [World.size_alloc] at hz2); (try (have hy2 : w.heap.size < w2.heap.size := by omega)); (try (have hx2 := Nat.lt_of_succ_le hz2)); (try (have hv2 := Nat.lt_of_succ_le (Nat.le_of_lt hx2))); (try (have hy2_1 : w1.heap.size < w2.heap.size := by omega))))
      go_ret
      refine ⟨rfl, ?_⟩
      (repeat' (first | (with_reducible exact Below.refl _ _) | (with_reducible refine below_step (by assumption) ?_ ?_) | (with_reducible refine Below.alloc ?_ ?_ _) | (with_reducible refine Below.setCell ?_ ?_ _) | (with_reducible refine below_drewN ?_ _) | (with_reducible refine Below.drew ?_) | omega | (simp; omega) | (simp; done)))
    · have hp := (good_of h1).1
      go_enter Tryz.func26, Tryz.ntmps26
      go_wp2_with (first | (go_at_call 44; refine (c_isCurve _ _ _).mono ?_; rintro e w1 ⟨rfl, hb1⟩; obtain ⟨hc1, hf1⟩ := bcell hb1; have hz1 := hb1.size; (try simp only [World.size_alloc] at hz1); (try (have hy1 : w.heap.size < w1.heap.size := by omega)); (try (have hx1 := Nat.lt_of_succ_le hz1)); (try (have hv1 := Nat.lt_of_succ_le (Nat.le_of_lt hx1)))) | (go_at_call 65; refine (c_isGood _ _ _ hA hB _).mono ?_; rintro e w2 ⟨rfl, hb2⟩; obtain ⟨hc2, hf2⟩ := bcell hb2; have hz2 := hb2.size; (try simp only [World.size_alloc] at hz2); (try (have hy2 : w.heap.size < w2.heap.size := by omega)); (try (have hx2 := Nat.lt_of_succ_le hz2)); (try (have hv2 := Nat.lt_of_succ_le (Nat.le_of_lt hx2))); (try (have hy2_1 : w1.heap.size < w2.heap.size := by omega))) | (go_at_call 27; refine (c_inside _ _ _ _).mono ?_; rintro e w' ⟨rfl, rfl⟩))
      go_ret
      refine ⟨rfl, ?_⟩
      (repeat' (first | (with_reducible exact Below.refl _ _) | (with_reducible refine below_step (by assumption) ?_ ?_) | (with_reducible refine Below.alloc ?_ ?_ _) | (with_reducible refine Below.setCell ?_ ?_ _) | (with_reducible refine below_drewN ?_ _) | (with_reducible refine Below.drew ?_) | omega | (simp; omega) | (simp; done)))
theorem c_dpAsked (A B p x n : Int) (w : World) :
    Calls Tryz.prog 33 #[.agg #[.int .i64 A, .int .i64 B], .int .i64 p, .int .i64 x, .int .i64 n] w fun e w' => e = .returned (.bool (fitB A B p x && inB n 1 40)) ∧ Below w.heap.size w w' := by
  unfold fitB
  cases h0 : (curveB A B && goodP A B p)
  · go_enter Tryz.func33, Tryz.ntmps33
    go_wp2_with ((go_at_call 69; refine (c_fmGood _ _ _ _).mono ?_; rintro e w1 ⟨rfl, hb1⟩; obtain ⟨hc1, hf1⟩ := bcell hb1; have hz1 := hb1.size; (try simp only [World.size_alloc] at hz1); (try (have hy1 : w.heap.size < w1.heap.size := by omega)); (try (have hx1 := Nat.lt_of_succ_le hz1)); (try (have hv1 := Nat.lt_of_succ_le (Nat.le_of_lt hx1)))))
    go_ret
    refine ⟨rfl, ?_⟩
    (repeat' (first | (with_reducible exact Below.refl _ _) | (with_reducible refine below_step (by assumption) ?_ ?_) | (with_reducible refine Below.alloc ?_ ?_ _) | (with_reducible refine Below.setCell ?_ ?_ _) | (with_reducible refine below_drewN ?_ _) | (with_reducible refine Below.drew ?_) | omega | (simp; omega) | (simp; done)))
  · have h1 : curveB A B = true := by simp at h0; exact h0.1
    have h2 : goodP A B p = true := by simp at h0; exact h0.2
    have hp := (good_of h2).1
    clear h0
    cases h3 : inB x 0 (p - 1)
    · go_enter Tryz.func33, Tryz.ntmps33
      go_wp2_with (first | (go_at_call 69; refine (c_fmGood _ _ _ _).mono ?_; rintro e w1 ⟨rfl, hb1⟩; obtain ⟨hc1, hf1⟩ := bcell hb1; have hz1 := hb1.size; (try simp only [World.size_alloc] at hz1); (try (have hy1 : w.heap.size < w1.heap.size := by omega)); (try (have hx1 := Nat.lt_of_succ_le hz1)); (try (have hv1 := Nat.lt_of_succ_le (Nat.le_of_lt hx1)))) | (go_at_call 60; refine (c_l1In _ _ _ _).mono ?_; rintro e w' ⟨rfl, rfl⟩))
      go_ret
      refine ⟨rfl, ?_⟩
      (repeat' (first | (with_reducible exact Below.refl _ _) | (with_reducible refine below_step (by assumption) ?_ ?_) | (with_reducible refine Below.alloc ?_ ?_ _) | (with_reducible refine Below.setCell ?_ ?_ _) | (with_reducible refine below_drewN ?_ _) | (with_reducible refine Below.drew ?_) | omega | (simp; omega) | (simp; done)))
    · cases h4 : inB n 1 40
      all_goals
        go_enter Tryz.func33, Tryz.ntmps33
        go_wp2_with (first | (go_at_call 69; refine (c_fmGood _ _ _ _).mono ?_; rintro e w1 ⟨rfl, hb1⟩; obtain ⟨hc1, hf1⟩ := bcell hb1; have hz1 := hb1.size; (try simp only [World.size_alloc] at hz1); (try (have hy1 : w.heap.size < w1.heap.size := by omega)); (try (have hx1 := Nat.lt_of_succ_le hz1)); (try (have hv1 := Nat.lt_of_succ_le (Nat.le_of_lt hx1)))) | (go_at_call 60; refine (c_l1In _ _ _ _).mono ?_; rintro e w' ⟨rfl, rfl⟩))
        go_ret
        refine ⟨rfl, ?_⟩
        (repeat' (first | (with_reducible exact Below.refl _ _) | (with_reducible refine below_step (by assumption) ?_ ?_) | (with_reducible refine Below.alloc ?_ ?_ _) | (with_reducible refine Below.setCell ?_ ?_ _) | (with_reducible refine below_drewN ?_ _) | (with_reducible refine Below.drew ?_) | omega | (simp; omega) | (simp; done)))
noncomputable def liesV (A B p x : Int) : Bool := decide (0 ≤ symS (fV A B x) p)
theorem c_iLiesOnCurve (A B p x : Int) (w : World) :
    Calls Tryz.prog 21 #[.agg #[.int .i64 A, .int .i64 B], .int .i64 p, .int .i64 x] w fun e w' => e = .returned (.tuple #[.bool (fitB A B p x && liesV A B p x), .bool (fitB A B p x)]) ∧ Below w.heap.size w w' := by
  cases h1 : fitB A B p x
  · go_enter Tryz.func21, Tryz.ntmps21
    go_wp2_with ((go_at_call 26; refine (c_divisionFits _ _ _ _ _).mono ?_; rintro e w1 ⟨rfl, hb1⟩; obtain ⟨hc1, hf1⟩ := bcell hb1; have hz1 := hb1.size; (try simp only [World.size_alloc] at hz1); (try (have hy1 : w.heap.size < w1.heap.size := by omega)); (try (have hx1 := Nat.lt_of_succ_le hz1)); (try (have hv1 := Nat.lt_of_succ_le (Nat.le_of_lt hx1)))))
    go_ret2
    refine ⟨rfl, ?_⟩
    (repeat' (first | (with_reducible exact Below.refl _ _) | (with_reducible refine below_step (by assumption) ?_ ?_) | (with_reducible refine Below.alloc ?_ ?_ _) | (with_reducible refine Below.setCell ?_ ?_ _) | (with_reducible refine below_drewN ?_ _) | (with_reducible refine Below.drew ?_) | omega | (simp; omega) | (simp; done)))
  · obtain ⟨hA, hB, hp, hpr, hx⟩ := fit_of h1
    have HS : Hid (symI (fV A B x % p) p = symS (fV A B x) p) := by show _ = _; rw [symI_mod, sym_eq _ _ hpr (by omega) (by omega)]
    go_enter Tryz.func21, Tryz.ntmps21
    go_wp2_with (first | (go_at_call 26; refine (c_divisionFits _ _ _ _ _).mono ?_; rintro e w1 ⟨rfl, hb1⟩; obtain ⟨hc1, hf1⟩ := bcell hb1; have hz1 := hb1.size; (try simp only [World.size_alloc] at hz1); (try (have hy1 : w.heap.size < w1.heap.size := by omega)); (try (have hx1 := Nat.lt_of_succ_le hz1)); (try (have hv1 := Nat.lt_of_succ_le (Nat.le_of_lt hx1)))) | (go_at_call 30; refine (c_rightSide _ _ _ _ hA hB (by omega) (by omega) _).mono ?_; rintro e w2 ⟨rfl, hb2⟩; obtain ⟨hc2, hf2⟩ := bcell hb2; have hz2 := hb2.size; (try simp only [World.size_alloc] at hz2); (try (have hy2 : w.heap.size < w2.heap.size := by omega)); (try (have hx2 := Nat.lt_of_succ_le hz2)); (try (have hv2 := Nat.lt_of_succ_le (Nat.le_of_lt hx2))); (try (have hy2_1 : w1.heap.size < w2.heap.size := by omega))) | (go_at_call 53; refine (c_symbol _ _ (by omega) (by omega) _).mono ?_; rintro e w' ⟨rfl, kd, rfl⟩))
    go_ret2
    refine ⟨?_, ?_⟩
    · unfold liesV; rw [← HS.out]; rfl
    · (repeat' (first | (with_reducible exact Below.refl _ _) | (with_reducible refine below_step (by assumption) ?_ ?_) | (with_reducible refine Below.alloc ?_ ?_ _) | (with_reducible refine Below.setCell ?_ ?_ _) | (with_reducible refine below_drewN ?_ _) | (with_reducible refine Below.drew ?_) | omega | (simp; omega) | (simp; done)))
end Go.Proofs.YtgjdgcmmlfmhmaaGreatDoor
