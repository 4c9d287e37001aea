/- Walks: ScaledTriangle, FirstTriangle. -/
import Derived.Test.YtcnfjapoopdiaaaScal
namespace Go.Proofs.Ytcnfjapoopdiaaa
open Go.RowKit

theorem areaB_bd {n : Int} (h : areaB n = true) : 1 ≤ n ∧ n ≤ 31 := by
  unfold areaB at h
  simp only [Bool.and_eq_true] at h
  exact inB_true h.1
theorem scV_form (n u v : Int) : ∃ p q r s t u' : Int, scV n u v = .agg #[.int .i64 p, .int .i64 q, .int .i64 r, .int .i64 s, .int .i64 t, .int .i64 u'] := by
  unfold scV
  split
  · exact ordV_form _ _ _ _ _ _
  · exact ⟨0, 0, 0, 0, 0, 0, rfl⟩
noncomputable def stB (n u v : Int) : Bool := areaB n && inB u 1 100 && inB v 1 (u - 1)
noncomputable def stV (n u v : Int) : Value := if stB n u v then scV n u v else tri0
theorem st_no {w w' : World} {n u v : Int} (h : stB n u v = false) (hb : Below w.heap.size w w') : TriPost w (stV n u v) (stB n u v && scB n u v) (.returned (.tuple #[.agg #[.int .i64 0, .int .i64 0, .int .i64 0, .int .i64 0, .int .i64 0, .int .i64 0], .bool false])) w' := by
  unfold stV; rw [h]; exact ⟨rfl, hb⟩
theorem st_yes {w w' : World} {n u v p1 p2 p3 p4 p5 p6 : Int} {b : Bool} (h : stB n u v = true) (hV : scV n u v = .agg #[.int .i64 p1, .int .i64 p2, .int .i64 p3, .int .i64 p4, .int .i64 p5, .int .i64 p6]) (hb2 : scB n u v = b) (hb : Below w.heap.size w w') : TriPost w (stV n u v) (stB n u v && scB n u v) (.returned (.tuple #[.agg #[.int .i64 p1, .int .i64 p2, .int .i64 p3, .int .i64 p4, .int .i64 p5, .int .i64 p6], .bool b])) w' := by
  unfold stV; rw [h, if_pos rfl, hV, hb2]; exact ⟨rfl, hb⟩
theorem stV_form (n u v : Int) : ∃ p q r s t u' : Int, stV n u v = .agg #[.int .i64 p, .int .i64 q, .int .i64 r, .int .i64 s, .int .i64 t, .int .i64 u'] := by
  unfold stV
  split
  · exact scV_form _ _ _
  · exact ⟨0, 0, 0, 0, 0, 0, rfl⟩
set_option maxHeartbeats 4000000 in
theorem c_sScaled (n u v : Int) (w : World) :
    Calls Try.prog 19 #[.int .i64 n, .int .i64 u, .int .i64 v] w (TriPost w (stV n u v) (stB n u v && scB n u v)) := by
  have HG : Hid (∀ w, _) := fun w => c_cnGood n w
  have H1 : Hid (∀ w, _) := fun w => c_l1In u 1 100 w
  have H2 : Hid (∀ w, _) := fun w => c_l1In v 1 (u - 1) w
  have HD : Hid (stB n u v = (areaB n && inB u 1 100 && inB v 1 (u - 1))) := rfl
  have kT := Blk.new w #[.int .i64 0, .int .i64 0, .int .i64 0, .int .i64 0, .int .i64 0, .int .i64 0] 27
  have hb0 : Below w.heap.size w (w.alloc (.cells #[.int .i64 0, .int .i64 0, .int .i64 0, .int .i64 0, .int .i64 0, .int .i64 0] 27)) := by (repeat' (first | (with_reducible exact Below.refl _ _) | (with_reducible refine below_step (by assumption) ?_ ?_) | (with_reducible refine Below.alloc ?_ ?_ _) | (with_reducible refine Below.setCell ?_ ?_ _) | (with_reducible refine below_drewN ?_ _) | (with_reducible refine Below.drew ?_) | omega | (simp; omega) | (simp; done)))
  cases h1 : areaB n
  · have HE : Hid (stB n u v = false) := by show _ = _; rw [HD.out, h1]; rfl
    rw [h1] at HG
    go_enter Try.func19, Try.ntmps19
    go_wp2_with fail
    (go_at_call 27; refine (HG.out _).mono ?_; rintro e w1 ⟨rfl, hb1⟩; obtain ⟨hc1, hf1⟩ := bcell hb1; have hz1 := hb1.size; (try simp only [World.size_alloc] at hz1); (try (have hy1 : w.heap.size < w1.heap.size := by omega)); (try (have hx1 := Nat.lt_of_succ_le hz1)); (try (have hv1 := Nat.lt_of_succ_le (Nat.le_of_lt hx1))))
    replace kT := kT.next hb1
    have kT0 : (w1).cell? ⟨w.heap.size, 0, none⟩ = some (.int .i64 0) := kT.cell 0; have kT1 : (w1).cell? ⟨w.heap.size, 1, none⟩ = some (.int .i64 0) := kT.cell 1; have kT2 : (w1).cell? ⟨w.heap.size, 2, none⟩ = some (.int .i64 0) := kT.cell 2; have kT3 : (w1).cell? ⟨w.heap.size, 3, none⟩ = some (.int .i64 0) := kT.cell 3; have kT4 : (w1).cell? ⟨w.heap.size, 4, none⟩ = some (.int .i64 0) := kT.cell 4; have kT5 : (w1).cell? ⟨w.heap.size, 5, none⟩ = some (.int .i64 0) := kT.cell 5; have kTf0 : (w1).frozen? ⟨w.heap.size, 0, none⟩ = false := kT.frozen 0; have kTf1 : (w1).frozen? ⟨w.heap.size, 1, none⟩ = false := kT.frozen 1; have kTf2 : (w1).frozen? ⟨w.heap.size, 2, none⟩ = false := kT.frozen 2; have kTf3 : (w1).frozen? ⟨w.heap.size, 3, none⟩ = false := kT.frozen 3; have kTf4 : (w1).frozen? ⟨w.heap.size, 4, none⟩ = false := kT.frozen 4; have kTf5 : (w1).frozen? ⟨w.heap.size, 5, none⟩ = false := kT.frozen 5; have kTl : w.heap.size < (w1).heap.size := kT.lt
    go_wp2
    have R := ((((((kT.set 0 (.int .i64 0)).set 1 (.int .i64 0)).set 2 (.int .i64 0)).set 3 (.int .i64 0)).set 4 (.int .i64 0)).set 5 (.int .i64 0))
    have hR : Below w.heap.size w ((((((w1.setCell ⟨w.heap.size, 0, none⟩ (.int .i64 0)).setCell ⟨w.heap.size, 1, none⟩ (.int .i64 0)).setCell ⟨w.heap.size, 2, none⟩ (.int .i64 0)).setCell ⟨w.heap.size, 3, none⟩ (.int .i64 0)).setCell ⟨w.heap.size, 4, none⟩ (.int .i64 0)).setCell ⟨w.heap.size, 5, none⟩ (.int .i64 0)) := by (repeat' (first | (with_reducible exact Below.refl _ _) | (with_reducible refine below_step (by assumption) ?_ ?_) | (with_reducible refine Below.alloc ?_ ?_ _) | (with_reducible refine Below.setCell ?_ ?_ _) | (with_reducible refine below_drewN ?_ _) | (with_reducible refine Below.drew ?_) | omega | (simp; omega) | (simp; done)))
    simp only [List.setIfInBounds_toArray, List.set_cons_zero, List.set_cons_succ] at R
    clear kT kT0 kT1 kT2 kT3 kT4 kT5 kTf0 kTf1 kTf2 kTf3 kTf4 kTf5 kTl
    generalize ((((((w1.setCell ⟨w.heap.size, 0, none⟩ (.int .i64 0)).setCell ⟨w.heap.size, 1, none⟩ (.int .i64 0)).setCell ⟨w.heap.size, 2, none⟩ (.int .i64 0)).setCell ⟨w.heap.size, 3, none⟩ (.int .i64 0)).setCell ⟨w.heap.size, 4, none⟩ (.int .i64 0)).setCell ⟨w.heap.size, 5, none⟩ (.int .i64 0)) = W9 at R hR ⊢
    have R0 : (W9).cell? ⟨w.heap.size, 0, none⟩ = some (.int .i64 0) := R.cell 0; have R1 : (W9).cell? ⟨w.heap.size, 1, none⟩ = some (.int .i64 0) := R.cell 1; have R2 : (W9).cell? ⟨w.heap.size, 2, none⟩ = some (.int .i64 0) := R.cell 2; have R3 : (W9).cell? ⟨w.heap.size, 3, none⟩ = some (.int .i64 0) := R.cell 3; have R4 : (W9).cell? ⟨w.heap.size, 4, none⟩ = some (.int .i64 0) := R.cell 4; have R5 : (W9).cell? ⟨w.heap.size, 5, none⟩ = some (.int .i64 0) := R.cell 5; have Rl : w.heap.size < (W9).heap.size := R.lt
    refine bodyPost_ret (v := .tuple #[.agg #[.int .i64 0, .int .i64 0, .int .i64 0, .int .i64 0, .int .i64 0, .int .i64 0], .bool false]) (by simp [results, Try.results19, go_sem, R0, R1, R2, R3, R4, R5]) rfl ?_
    exact st_no HE.out hR
  · rw [h1] at HG
    cases h2 : inB u 1 100
    · have HE : Hid (stB n u v = false) := by show _ = _; rw [HD.out, h2, Bool.and_false]; rfl
      rw [h2] at H1
      go_enter Try.func19, Try.ntmps19
      go_wp2_with fail
      (go_at_call 27; refine (HG.out _).mono ?_; rintro e w1 ⟨rfl, hb1⟩; obtain ⟨hc1, hf1⟩ := bcell hb1; have hz1 := hb1.size; (try simp only [World.size_alloc] at hz1); (try (have hy1 : w.heap.size < w1.heap.size := by omega)); (try (have hx1 := Nat.lt_of_succ_le hz1)); (try (have hv1 := Nat.lt_of_succ_le (Nat.le_of_lt hx1))))
      replace kT := kT.next hb1
      have kT0 : (w1).cell? ⟨w.heap.size, 0, none⟩ = some (.int .i64 0) := kT.cell 0; have kT1 : (w1).cell? ⟨w.heap.size, 1, none⟩ = some (.int .i64 0) := kT.cell 1; have kT2 : (w1).cell? ⟨w.heap.size, 2, none⟩ = some (.int .i64 0) := kT.cell 2; have kT3 : (w1).cell? ⟨w.heap.size, 3, none⟩ = some (.int .i64 0) := kT.cell 3; have kT4 : (w1).cell? ⟨w.heap.size, 4, none⟩ = some (.int .i64 0) := kT.cell 4; have kT5 : (w1).cell? ⟨w.heap.size, 5, none⟩ = some (.int .i64 0) := kT.cell 5; have kTf0 : (w1).frozen? ⟨w.heap.size, 0, none⟩ = false := kT.frozen 0; have kTf1 : (w1).frozen? ⟨w.heap.size, 1, none⟩ = false := kT.frozen 1; have kTf2 : (w1).frozen? ⟨w.heap.size, 2, none⟩ = false := kT.frozen 2; have kTf3 : (w1).frozen? ⟨w.heap.size, 3, none⟩ = false := kT.frozen 3; have kTf4 : (w1).frozen? ⟨w.heap.size, 4, none⟩ = false := kT.frozen 4; have kTf5 : (w1).frozen? ⟨w.heap.size, 5, none⟩ = false := kT.frozen 5; have kTl : w.heap.size < (w1).heap.size := kT.lt
      go_wp2_with ((go_at_call 53; refine (H1.out _).mono ?_; rintro e w' ⟨rfl, rfl⟩))
      have R := ((((((kT.set 0 (.int .i64 0)).set 1 (.int .i64 0)).set 2 (.int .i64 0)).set 3 (.int .i64 0)).set 4 (.int .i64 0)).set 5 (.int .i64 0))
      have hR : Below w.heap.size w ((((((w1.setCell ⟨w.heap.size, 0, none⟩ (.int .i64 0)).setCell ⟨w.heap.size, 1, none⟩ (.int .i64 0)).setCell ⟨w.heap.size, 2, none⟩ (.int .i64 0)).setCell ⟨w.heap.size, 3, none⟩ (.int .i64 0)).setCell ⟨w.heap.size, 4, none⟩ (.int .i64 0)).setCell ⟨w.heap.size, 5, none⟩ (.int .i64 0)) := by (repeat' (first | (with_reducible exact Below.refl _ _) | (with_reducible refine below_step (by assumption) ?_ ?_) | (with_reducible refine Below.alloc ?_ ?_ _) | (with_reducible refine Below.setCell ?_ ?_ _) | (with_reducible refine below_drewN ?_ _) | (with_reducible refine Below.drew ?_) | omega | (simp; omega) | (simp; done)))
      simp only [List.setIfInBounds_toArray, List.set_cons_zero, List.set_cons_succ] at R
      clear kT kT0 kT1 kT2 kT3 kT4 kT5 kTf0 kTf1 kTf2 kTf3 kTf4 kTf5 kTl
      generalize ((((((w1.setCell ⟨w.heap.size, 0, none⟩ (.int .i64 0)).setCell ⟨w.heap.size, 1, none⟩ (.int .i64 0)).setCell ⟨w.heap.size, 2, none⟩ (.int .i64 0)).setCell ⟨w.heap.size, 3, none⟩ (.int .i64 0)).setCell ⟨w.heap.size, 4, none⟩ (.int .i64 0)).setCell ⟨w.heap.size, 5, none⟩ (.int .i64 0)) = W9 at R hR ⊢
      have R0 : (W9).cell? ⟨w.heap.size, 0, none⟩ = some (.int .i64 0) := R.cell 0; have R1 : (W9).cell? ⟨w.heap.size, 1, none⟩ = some (.int .i64 0) := R.cell 1; have R2 : (W9).cell? ⟨w.heap.size, 2, none⟩ = some (.int .i64 0) := R.cell 2; have R3 : (W9).cell? ⟨w.heap.size, 3, none⟩ = some (.int .i64 0) := R.cell 3; have R4 : (W9).cell? ⟨w.heap.size, 4, none⟩ = some (.int .i64 0) := R.cell 4; have R5 : (W9).cell? ⟨w.heap.size, 5, none⟩ = some (.int .i64 0) := R.cell 5; have Rl : w.heap.size < (W9).heap.size := R.lt
      refine bodyPost_ret (v := .tuple #[.agg #[.int .i64 0, .int .i64 0, .int .i64 0, .int .i64 0, .int .i64 0, .int .i64 0], .bool false]) (by simp [results, Try.results19, go_sem, R0, R1, R2, R3, R4, R5]) rfl ?_
      exact st_no HE.out hR
    · have hu := inB_true h2
      rw [h2] at H1
      cases h3 : inB v 1 (u - 1)
      · have HE : Hid (stB n u v = false) := by show _ = _; rw [HD.out, h3, Bool.and_false]
        rw [h3] at H2
        go_enter Try.func19, Try.ntmps19
        go_wp2_with fail
        (go_at_call 27; refine (HG.out _).mono ?_; rintro e w1 ⟨rfl, hb1⟩; obtain ⟨hc1, hf1⟩ := bcell hb1; have hz1 := hb1.size; (try simp only [World.size_alloc] at hz1); (try (have hy1 : w.heap.size < w1.heap.size := by omega)); (try (have hx1 := Nat.lt_of_succ_le hz1)); (try (have hv1 := Nat.lt_of_succ_le (Nat.le_of_lt hx1))))
        replace kT := kT.next hb1
        have kT0 : (w1).cell? ⟨w.heap.size, 0, none⟩ = some (.int .i64 0) := kT.cell 0; have kT1 : (w1).cell? ⟨w.heap.size, 1, none⟩ = some (.int .i64 0) := kT.cell 1; have kT2 : (w1).cell? ⟨w.heap.size, 2, none⟩ = some (.int .i64 0) := kT.cell 2; have kT3 : (w1).cell? ⟨w.heap.size, 3, none⟩ = some (.int .i64 0) := kT.cell 3; have kT4 : (w1).cell? ⟨w.heap.size, 4, none⟩ = some (.int .i64 0) := kT.cell 4; have kT5 : (w1).cell? ⟨w.heap.size, 5, none⟩ = some (.int .i64 0) := kT.cell 5; have kTf0 : (w1).frozen? ⟨w.heap.size, 0, none⟩ = false := kT.frozen 0; have kTf1 : (w1).frozen? ⟨w.heap.size, 1, none⟩ = false := kT.frozen 1; have kTf2 : (w1).frozen? ⟨w.heap.size, 2, none⟩ = false := kT.frozen 2; have kTf3 : (w1).frozen? ⟨w.heap.size, 3, none⟩ = false := kT.frozen 3; have kTf4 : (w1).frozen? ⟨w.heap.size, 4, none⟩ = false := kT.frozen 4; have kTf5 : (w1).frozen? ⟨w.heap.size, 5, none⟩ = false := kT.frozen 5; have kTl : w.heap.size < (w1).heap.size := kT.lt
        go_wp2_with fail
        refine (H1.out _).mono ?_
        rintro e w' ⟨rfl, rfl⟩
        go_wp2_with fail
        refine (H2.out _).mono ?_
        rintro e w' ⟨rfl, rfl⟩
        go_wp2
        have R := ((((((kT.set 0 (.int .i64 0)).set 1 (.int .i64 0)).set 2 (.int .i64 0)).set 3 (.int .i64 0)).set 4 (.int .i64 0)).set 5 (.int .i64 0))
        have hR : Below w.heap.size w ((((((w1.setCell ⟨w.heap.size, 0, none⟩ (.int .i64 0)).setCell ⟨w.heap.size, 1, none⟩ (.int .i64 0)).setCell ⟨w.heap.size, 2, none⟩ (.int .i64 0)).setCell ⟨w.heap.size, 3, none⟩ (.int .i64 0)).setCell ⟨w.heap.size, 4, none⟩ (.int .i64 0)).setCell ⟨w.heap.size, 5, none⟩ (.int .i64 0)) := by (repeat' (first | (with_reducible exact Below.refl _ _) | (with_reducible refine below_step (by assumption) ?_ ?_) | (with_reducible refine Below.alloc ?_ ?_ _) | (with_reducible refine Below.setCell ?_ ?_ _) | (with_reducible refine below_drewN ?_ _) | (with_reducible refine Below.drew ?_) | omega | (simp; omega) | (simp; done)))
        simp only [List.setIfInBounds_toArray, List.set_cons_zero, List.set_cons_succ] at R
        clear kT kT0 kT1 kT2 kT3 kT4 kT5 kTf0 kTf1 kTf2 kTf3 kTf4 kTf5 kTl
        generalize ((((((w1.setCell ⟨w.heap.size, 0, none⟩ (.int .i64 0)).setCell ⟨w.heap.size, 1, none⟩ (.int .i64 0)).setCell ⟨w.heap.size, 2, none⟩ (.int .i64 0)).setCell ⟨w.heap.size, 3, none⟩ (.int .i64 0)).setCell ⟨w.heap.size, 4, none⟩ (.int .i64 0)).setCell ⟨w.heap.size, 5, none⟩ (.int .i64 0)) = W9 at R hR ⊢
        have R0 : (W9).cell? ⟨w.heap.size, 0, none⟩ = some (.int .i64 0) := R.cell 0; have R1 : (W9).cell? ⟨w.heap.size, 1, none⟩ = some (.int .i64 0) := R.cell 1; have R2 : (W9).cell? ⟨w.heap.size, 2, none⟩ = some (.int .i64 0) := R.cell 2; have R3 : (W9).cell? ⟨w.heap.size, 3, none⟩ = some (.int .i64 0) := R.cell 3; have R4 : (W9).cell? ⟨w.heap.size, 4, none⟩ = some (.int .i64 0) := R.cell 4; have R5 : (W9).cell? ⟨w.heap.size, 5, none⟩ = some (.int .i64 0) := R.cell 5; have Rl : w.heap.size < (W9).heap.size := R.lt
        refine bodyPost_ret (v := .tuple #[.agg #[.int .i64 0, .int .i64 0, .int .i64 0, .int .i64 0, .int .i64 0, .int .i64 0], .bool false]) (by simp [results, Try.results19, go_sem, R0, R1, R2, R3, R4, R5]) rfl ?_
        exact st_no HE.out hR
      · have HE : Hid (stB n u v = true) := by show _ = _; rw [HD.out, h1, h2, h3]; rfl
        have hv := inB_true h3
        have hn := areaB_bd h1
        rw [h3] at H2
        obtain ⟨p1, p2, p3, p4, p5, p6, hf⟩ := scV_form n u v
        have HF := Lib.hid hf
        have hc := fun w => c_cnScaled n u v hn hu hv w
        rw [hf] at hc
        have HB : ∃ b, scB n u v = b := ⟨_, rfl⟩
        obtain ⟨b, hb⟩ := HB
        have HBB := Lib.hid hb
        rw [hb] at hc
        have HC := Lib.hid hc
        clear hf hc hb HD h1 h2 h3
        go_enter Try.func19, Try.ntmps19
        go_wp2_with fail
        (go_at_call 27; refine (HG.out _).mono ?_; rintro e w1 ⟨rfl, hb1⟩; obtain ⟨hc1, hf1⟩ := bcell hb1; have hz1 := hb1.size; (try simp only [World.size_alloc] at hz1); (try (have hy1 : w.heap.size < w1.heap.size := by omega)); (try (have hx1 := Nat.lt_of_succ_le hz1)); (try (have hv1 := Nat.lt_of_succ_le (Nat.le_of_lt hx1))))
        replace kT := kT.next hb1
        have hB1 : Below w.heap.size w w1 := by (repeat' (first | (with_reducible exact Below.refl _ _) | (with_reducible refine below_step (by assumption) ?_ ?_) | (with_reducible refine Below.alloc ?_ ?_ _) | (with_reducible refine Below.setCell ?_ ?_ _) | (with_reducible refine below_drewN ?_ _) | (with_reducible refine Below.drew ?_) | omega | (simp; omega) | (simp; done)))
        go_wp2_with fail
        refine (H1.out _).mono ?_
        rintro e w' ⟨rfl, rfl⟩
        go_wp2_with fail
        refine (H2.out _).mono ?_
        rintro e w' ⟨rfl, rfl⟩
        go_wp2_with fail
        refine (HC.out _).mono ?_
        rintro e w2 ⟨rfl, hb2⟩
        have kT2 := kT.next hb2
        have hB2 := below_step hb2 hB1.size hB1
        have kT20 : (w2).cell? ⟨w.heap.size, 0, none⟩ = some (.int .i64 0) := kT2.cell 0; have kT21 : (w2).cell? ⟨w.heap.size, 1, none⟩ = some (.int .i64 0) := kT2.cell 1; have kT22 : (w2).cell? ⟨w.heap.size, 2, none⟩ = some (.int .i64 0) := kT2.cell 2; have kT23 : (w2).cell? ⟨w.heap.size, 3, none⟩ = some (.int .i64 0) := kT2.cell 3; have kT24 : (w2).cell? ⟨w.heap.size, 4, none⟩ = some (.int .i64 0) := kT2.cell 4; have kT25 : (w2).cell? ⟨w.heap.size, 5, none⟩ = some (.int .i64 0) := kT2.cell 5; have kT2f0 : (w2).frozen? ⟨w.heap.size, 0, none⟩ = false := kT2.frozen 0; have kT2f1 : (w2).frozen? ⟨w.heap.size, 1, none⟩ = false := kT2.frozen 1; have kT2f2 : (w2).frozen? ⟨w.heap.size, 2, none⟩ = false := kT2.frozen 2; have kT2f3 : (w2).frozen? ⟨w.heap.size, 3, none⟩ = false := kT2.frozen 3; have kT2f4 : (w2).frozen? ⟨w.heap.size, 4, none⟩ = false := kT2.frozen 4; have kT2f5 : (w2).frozen? ⟨w.heap.size, 5, none⟩ = false := kT2.frozen 5; have kT2l : w.heap.size < (w2).heap.size := kT2.lt
        go_wp2
        have R := ((((((kT2.set 0 (.int .i64 p1)).set 1 (.int .i64 p2)).set 2 (.int .i64 p3)).set 3 (.int .i64 p4)).set 4 (.int .i64 p5)).set 5 (.int .i64 p6))
        have hR : Below w.heap.size w ((((((w2.setCell ⟨w.heap.size, 0, none⟩ (.int .i64 p1)).setCell ⟨w.heap.size, 1, none⟩ (.int .i64 p2)).setCell ⟨w.heap.size, 2, none⟩ (.int .i64 p3)).setCell ⟨w.heap.size, 3, none⟩ (.int .i64 p4)).setCell ⟨w.heap.size, 4, none⟩ (.int .i64 p5)).setCell ⟨w.heap.size, 5, none⟩ (.int .i64 p6)) := by (repeat' (first | (with_reducible exact Below.refl _ _) | (with_reducible refine below_step (by assumption) ?_ ?_) | (with_reducible refine Below.alloc ?_ ?_ _) | (with_reducible refine Below.setCell ?_ ?_ _) | (with_reducible refine below_drewN ?_ _) | (with_reducible refine Below.drew ?_) | omega | (simp; omega) | (simp; done)))
        simp only [List.setIfInBounds_toArray, List.set_cons_zero, List.set_cons_succ] at R
        clear kT2 kT20 kT21 kT22 kT23 kT24 kT25 kT2f0 kT2f1 kT2f2 kT2f3 kT2f4 kT2f5 kT2l
        generalize ((((((w2.setCell ⟨w.heap.size, 0, none⟩ (.int .i64 p1)).setCell ⟨w.heap.size, 1, none⟩ (.int .i64 p2)).setCell ⟨w.heap.size, 2, none⟩ (.int .i64 p3)).setCell ⟨w.heap.size, 3, none⟩ (.int .i64 p4)).setCell ⟨w.heap.size, 4, none⟩ (.int .i64 p5)).setCell ⟨w.heap.size, 5, none⟩ (.int .i64 p6)) = W9 at R hR ⊢
        have R0 : (W9).cell? ⟨w.heap.size, 0, none⟩ = some (.int .i64 p1) := R.cell 0; have R1 : (W9).cell? ⟨w.heap.size, 1, none⟩ = some (.int .i64 p2) := R.cell 1; have R2 : (W9).cell? ⟨w.heap.size, 2, none⟩ = some (.int .i64 p3) := R.cell 2; have R3 : (W9).cell? ⟨w.heap.size, 3, none⟩ = some (.int .i64 p4) := R.cell 3; have R4 : (W9).cell? ⟨w.heap.size, 4, none⟩ = some (.int .i64 p5) := R.cell 4; have R5 : (W9).cell? ⟨w.heap.size, 5, none⟩ = some (.int .i64 p6) := R.cell 5; have Rl : w.heap.size < (W9).heap.size := R.lt
        refine bodyPost_ret (v := .tuple #[.agg #[.int .i64 p1, .int .i64 p2, .int .i64 p3, .int .i64 p4, .int .i64 p5, .int .i64 p6], .bool b]) (by simp [results, Try.results19, go_sem, R0, R1, R2, R3, R4, R5]) rfl ?_
        exact st_yes HE.out HF.out HBB.out hR
set_option maxHeartbeats 4000000 in
theorem c_iScaled (n u v : Int) (w : World) :
    Calls Try.prog 18 #[.int .i64 n, .int .i64 u, .int .i64 v] w (TriPost w (stV n u v) (stB n u v && scB n u v)) := by
  have HG : Hid (∀ w, _) := fun w => c_isArea n w
  have H1 : Hid (∀ w, _) := fun w => c_inside u 1 100 w
  have H2 : Hid (∀ w, _) := fun w => c_inside v 1 (u - 1) w
  have HD : Hid (stB n u v = (areaB n && inB u 1 100 && inB v 1 (u - 1))) := rfl
  have kT := Blk.new w #[.int .i64 0, .int .i64 0, .int .i64 0, .int .i64 0, .int .i64 0, .int .i64 0] 27
  have hb0 : Below w.heap.size w (w.alloc (.cells #[.int .i64 0, .int .i64 0, .int .i64 0, .int .i64 0, .int .i64 0, .int .i64 0] 27)) := by (repeat' (first | (with_reducible exact Below.refl _ _) | (with_reducible refine below_step (by assumption) ?_ ?_) | (with_reducible refine Below.alloc ?_ ?_ _) | (with_reducible refine Below.setCell ?_ ?_ _) | (with_reducible refine below_drewN ?_ _) | (with_reducible refine Below.drew ?_) | omega | (simp; omega) | (simp; done)))
  cases h1 : areaB n
  · have HE : Hid (stB n u v = false) := by show _ = _; rw [HD.out, h1]; rfl
    rw [h1] at HG
    go_enter Try.func18, Try.ntmps18
    go_wp2_with fail
    (go_at_call 32; refine (HG.out _).mono ?_; rintro e w1 ⟨rfl, hb1⟩; obtain ⟨hc1, hf1⟩ := bcell hb1; have hz1 := hb1.size; (try simp only [World.size_alloc] at hz1); (try (have hy1 : w.heap.size < w1.heap.size := by omega)); (try (have hx1 := Nat.lt_of_succ_le hz1)); (try (have hv1 := Nat.lt_of_succ_le (Nat.le_of_lt hx1))))
    replace kT := kT.next hb1
    have kT0 : (w1).cell? ⟨w.heap.size, 0, none⟩ = some (.int .i64 0) := kT.cell 0; have kT1 : (w1).cell? ⟨w.heap.size, 1, none⟩ = some (.int .i64 0) := kT.cell 1; have kT2 : (w1).cell? ⟨w.heap.size, 2, none⟩ = some (.int .i64 0) := kT.cell 2; have kT3 : (w1).cell? ⟨w.heap.size, 3, none⟩ = some (.int .i64 0) := kT.cell 3; have kT4 : (w1).cell? ⟨w.heap.size, 4, none⟩ = some (.int .i64 0) := kT.cell 4; have kT5 : (w1).cell? ⟨w.heap.size, 5, none⟩ = some (.int .i64 0) := kT.cell 5; have kTf0 : (w1).frozen? ⟨w.heap.size, 0, none⟩ = false := kT.frozen 0; have kTf1 : (w1).frozen? ⟨w.heap.size, 1, none⟩ = false := kT.frozen 1; have kTf2 : (w1).frozen? ⟨w.heap.size, 2, none⟩ = false := kT.frozen 2; have kTf3 : (w1).frozen? ⟨w.heap.size, 3, none⟩ = false := kT.frozen 3; have kTf4 : (w1).frozen? ⟨w.heap.size, 4, none⟩ = false := kT.frozen 4; have kTf5 : (w1).frozen? ⟨w.heap.size, 5, none⟩ = false := kT.frozen 5; have kTl : w.heap.size < (w1).heap.size := kT.lt
    go_wp2
    have R := ((((((kT.set 0 (.int .i64 0)).set 1 (.int .i64 0)).set 2 (.int .i64 0)).set 3 (.int .i64 0)).set 4 (.int .i64 0)).set 5 (.int .i64 0))
    have hR : Below w.heap.size w ((((((w1.setCell ⟨w.heap.size, 0, none⟩ (.int .i64 0)).setCell ⟨w.heap.size, 1, none⟩ (.int .i64 0)).setCell ⟨w.heap.size, 2, none⟩ (.int .i64 0)).setCell ⟨w.heap.size, 3, none⟩ (.int .i64 0)).setCell ⟨w.heap.size, 4, none⟩ (.int .i64 0)).setCell ⟨w.heap.size, 5, none⟩ (.int .i64 0)) := by (repeat' (first | (with_reducible exact Below.refl _ _) | (with_reducible refine below_step (by assumption) ?_ ?_) | (with_reducible refine Below.alloc ?_ ?_ _) | (with_reducible refine Below.setCell ?_ ?_ _) | (with_reducible refine below_drewN ?_ _) | (with_reducible refine Below.drew ?_) | omega | (simp; omega) | (simp; done)))
    simp only [List.setIfInBounds_toArray, List.set_cons_zero, List.set_cons_succ] at R
    clear kT kT0 kT1 kT2 kT3 kT4 kT5 kTf0 kTf1 kTf2 kTf3 kTf4 kTf5 kTl
    generalize ((((((w1.setCell ⟨w.heap.size, 0, none⟩ (.int .i64 0)).setCell ⟨w.heap.size, 1, none⟩ (.int .i64 0)).setCell ⟨w.heap.size, 2, none⟩ (.int .i64 0)).setCell ⟨w.heap.size, 3, none⟩ (.int .i64 0)).setCell ⟨w.heap.size, 4, none⟩ (.int .i64 0)).setCell ⟨w.heap.size, 5, none⟩ (.int .i64 0)) = W9 at R hR ⊢
    have R0 : (W9).cell? ⟨w.heap.size, 0, none⟩ = some (.int .i64 0) := R.cell 0; have R1 : (W9).cell? ⟨w.heap.size, 1, none⟩ = some (.int .i64 0) := R.cell 1; have R2 : (W9).cell? ⟨w.heap.size, 2, none⟩ = some (.int .i64 0) := R.cell 2; have R3 : (W9).cell? ⟨w.heap.size, 3, none⟩ = some (.int .i64 0) := R.cell 3; have R4 : (W9).cell? ⟨w.heap.size, 4, none⟩ = some (.int .i64 0) := R.cell 4; have R5 : (W9).cell? ⟨w.heap.size, 5, none⟩ = some (.int .i64 0) := R.cell 5; have Rl : w.heap.size < (W9).heap.size := R.lt
    refine bodyPost_ret (v := .tuple #[.agg #[.int .i64 0, .int .i64 0, .int .i64 0, .int .i64 0, .int .i64 0, .int .i64 0], .bool false]) (by simp [results, Try.results18, go_sem, R0, R1, R2, R3, R4, R5]) rfl ?_
    exact st_no HE.out hR
  · rw [h1] at HG
    cases h2 : inB u 1 100
    · have HE : Hid (stB n u v = false) := by show _ = _; rw [HD.out, h2, Bool.and_false]; rfl
      rw [h2] at H1
      go_enter Try.func18, Try.ntmps18
      go_wp2_with fail
      (go_at_call 32; refine (HG.out _).mono ?_; rintro e w1 ⟨rfl, hb1⟩; obtain ⟨hc1, hf1⟩ := bcell hb1; have hz1 := hb1.size; (try simp only [World.size_alloc] at hz1); (try (have hy1 : w.heap.size < w1.heap.size := by omega)); (try (have hx1 := Nat.lt_of_succ_le hz1)); (try (have hv1 := Nat.lt_of_succ_le (Nat.le_of_lt hx1))))
      replace kT := kT.next hb1
      have kT0 : (w1).cell? ⟨w.heap.size, 0, none⟩ = some (.int .i64 0) := kT.cell 0; have kT1 : (w1).cell? ⟨w.heap.size, 1, none⟩ = some (.int .i64 0) := kT.cell 1; have kT2 : (w1).cell? ⟨w.heap.size, 2, none⟩ = some (.int .i64 0) := kT.cell 2; have kT3 : (w1).cell? ⟨w.heap.size, 3, none⟩ = some (.int .i64 0) := kT.cell 3; have kT4 : (w1).cell? ⟨w.heap.size, 4, none⟩ = some (.int .i64 0) := kT.cell 4; have kT5 : (w1).cell? ⟨w.heap.size, 5, none⟩ = some (.int .i64 0) := kT.cell 5; have kTf0 : (w1).frozen? ⟨w.heap.size, 0, none⟩ = false := kT.frozen 0; have kTf1 : (w1).frozen? ⟨w.heap.size, 1, none⟩ = false := kT.frozen 1; have kTf2 : (w1).frozen? ⟨w.heap.size, 2, none⟩ = false := kT.frozen 2; have kTf3 : (w1).frozen? ⟨w.heap.size, 3, none⟩ = false := kT.frozen 3; have kTf4 : (w1).frozen? ⟨w.heap.size, 4, none⟩ = false := kT.frozen 4; have kTf5 : (w1).frozen? ⟨w.heap.size, 5, none⟩ = false := kT.frozen 5; have kTl : w.heap.size < (w1).heap.size := kT.lt
      go_wp2_with ((go_at_call 66; refine (H1.out _).mono ?_; rintro e w' ⟨rfl, rfl⟩))
      have R := ((((((kT.set 0 (.int .i64 0)).set 1 (.int .i64 0)).set 2 (.int .i64 0)).set 3 (.int .i64 0)).set 4 (.int .i64 0)).set 5 (.int .i64 0))
      have hR : Below w.heap.size w ((((((w1.setCell ⟨w.heap.size, 0, none⟩ (.int .i64 0)).setCell ⟨w.heap.size, 1, none⟩ (.int .i64 0)).setCell ⟨w.heap.size, 2, none⟩ (.int .i64 0)).setCell ⟨w.heap.size, 3, none⟩ (.int .i64 0)).setCell ⟨w.heap.size, 4, none⟩ (.int .i64 0)).setCell ⟨w.heap.size, 5, none⟩ (.int .i64 0)) := by (repeat' (first | (with_reducible exact Below.refl _ _) | (with_reducible refine below_step (by assumption) ?_ ?_) | (with_reducible refine Below.alloc ?_ ?_ _) | (with_reducible refine Below.setCell ?_ ?_ _) | (with_reducible refine below_drewN ?_ _) | (with_reducible refine Below.drew ?_) | omega | (simp; omega) | (simp; done)))
      simp only [List.setIfInBounds_toArray, List.set_cons_zero, List.set_cons_succ] at R
      clear kT kT0 kT1 kT2 kT3 kT4 kT5 kTf0 kTf1 kTf2 kTf3 kTf4 kTf5 kTl
      generalize ((((((w1.setCell ⟨w.heap.size, 0, none⟩ (.int .i64 0)).setCell ⟨w.heap.size, 1, none⟩ (.int .i64 0)).setCell ⟨w.heap.size, 2, none⟩ (.int .i64 0)).setCell ⟨w.heap.size, 3, none⟩ (.int .i64 0)).setCell ⟨w.heap.size, 4, none⟩ (.int .i64 0)).setCell ⟨w.heap.size, 5, none⟩ (.int .i64 0)) = W9 at R hR ⊢
      have R0 : (W9).cell? ⟨w.heap.size, 0, none⟩ = some (.int .i64 0) := R.cell 0; have R1 : (W9).cell? ⟨w.heap.size, 1, none⟩ = some (.int .i64 0) := R.cell 1; have R2 : (W9).cell? ⟨w.heap.size, 2, none⟩ = some (.int .i64 0) := R.cell 2; have R3 : (W9).cell? ⟨w.heap.size, 3, none⟩ = some (.int .i64 0) := R.cell 3; have R4 : (W9).cell? ⟨w.heap.size, 4, none⟩ = some (.int .i64 0) := R.cell 4; have R5 : (W9).cell? ⟨w.heap.size, 5, none⟩ = some (.int .i64 0) := R.cell 5; have Rl : w.heap.size < (W9).heap.size := R.lt
      refine bodyPost_ret (v := .tuple #[.agg #[.int .i64 0, .int .i64 0, .int .i64 0, .int .i64 0, .int .i64 0, .int .i64 0], .bool false]) (by simp [results, Try.results18, go_sem, R0, R1, R2, R3, R4, R5]) rfl ?_
      exact st_no HE.out hR
    · have hu := inB_true h2
      rw [h2] at H1
      cases h3 : inB v 1 (u - 1)
      · have HE : Hid (stB n u v = false) := by show _ = _; rw [HD.out, h3, Bool.and_false]
        rw [h3] at H2
        go_enter Try.func18, Try.ntmps18
        go_wp2_with fail
        (go_at_call 32; refine (HG.out _).mono ?_; rintro e w1 ⟨rfl, hb1⟩; obtain ⟨hc1, hf1⟩ := bcell hb1; have hz1 := hb1.size; (try simp only [World.size_alloc] at hz1); (try (have hy1 : w.heap.size < w1.heap.size := by omega)); (try (have hx1 := Nat.lt_of_succ_le hz1)); (try (have hv1 := Nat.lt_of_succ_le (Nat.le_of_lt hx1))))
        replace kT := kT.next hb1
        have kT0 : (w1).cell? ⟨w.heap.size, 0, none⟩ = some (.int .i64 0) := kT.cell 0; have kT1 : (w1).cell? ⟨w.heap.size, 1, none⟩ = some (.int .i64 0) := kT.cell 1; have kT2 : (w1).cell? ⟨w.heap.size, 2, none⟩ = some (.int .i64 0) := kT.cell 2; have kT3 : (w1).cell? ⟨w.heap.size, 3, none⟩ = some (.int .i64 0) := kT.cell 3; have kT4 : (w1).cell? ⟨w.heap.size, 4, none⟩ = some (.int .i64 0) := kT.cell 4; have kT5 : (w1).cell? ⟨w.heap.size, 5, none⟩ = some (.int .i64 0) := kT.cell 5; have kTf0 : (w1).frozen? ⟨w.heap.size, 0, none⟩ = false := kT.frozen 0; have kTf1 : (w1).frozen? ⟨w.heap.size, 1, none⟩ = false := kT.frozen 1; have kTf2 : (w1).frozen? ⟨w.heap.size, 2, none⟩ = false := kT.frozen 2; have kTf3 : (w1).frozen? ⟨w.heap.size, 3, none⟩ = false := kT.frozen 3; have kTf4 : (w1).frozen? ⟨w.heap.size, 4, none⟩ = false := kT.frozen 4; have kTf5 : (w1).frozen? ⟨w.heap.size, 5, none⟩ = false := kT.frozen 5; have kTl : w.heap.size < (w1).heap.size := kT.lt
        go_wp2_with fail
        refine (H1.out _).mono ?_
        rintro e w' ⟨rfl, rfl⟩
        go_wp2_with fail
        refine (H2.out _).mono ?_
        rintro e w' ⟨rfl, rfl⟩
        go_wp2
        have R := ((((((kT.set 0 (.int .i64 0)).set 1 (.int .i64 0)).set 2 (.int .i64 0)).set 3 (.int .i64 0)).set 4 (.int .i64 0)).set 5 (.int .i64 0))
        have hR : Below w.heap.size w ((((((w1.setCell ⟨w.heap.size, 0, none⟩ (.int .i64 0)).setCell ⟨w.heap.size, 1, none⟩ (.int .i64 0)).setCell ⟨w.heap.size, 2, none⟩ (.int .i64 0)).setCell ⟨w.heap.size, 3, none⟩ (.int .i64 0)).setCell ⟨w.heap.size, 4, none⟩ (.int .i64 0)).setCell ⟨w.heap.size, 5, none⟩ (.int .i64 0)) := by (repeat' (first | (with_reducible exact Below.refl _ _) | (with_reducible refine below_step (by assumption) ?_ ?_) | (with_reducible refine Below.alloc ?_ ?_ _) | (with_reducible refine Below.setCell ?_ ?_ _) | (with_reducible refine below_drewN ?_ _) | (with_reducible refine Below.drew ?_) | omega | (simp; omega) | (simp; done)))
        simp only [List.setIfInBounds_toArray, List.set_cons_zero, List.set_cons_succ] at R
        clear kT kT0 kT1 kT2 kT3 kT4 kT5 kTf0 kTf1 kTf2 kTf3 kTf4 kTf5 kTl
        generalize ((((((w1.setCell ⟨w.heap.size, 0, none⟩ (.int .i64 0)).setCell ⟨w.heap.size, 1, none⟩ (.int .i64 0)).setCell ⟨w.heap.size, 2, none⟩ (.int .i64 0)).setCell ⟨w.heap.size, 3, none⟩ (.int .i64 0)).setCell ⟨w.heap.size, 4, none⟩ (.int .i64 0)).setCell ⟨w.heap.size, 5, none⟩ (.int .i64 0)) = W9 at R hR ⊢
        have R0 : (W9).cell? ⟨w.heap.size, 0, none⟩ = some (.int .i64 0) := R.cell 0; have R1 : (W9).cell? ⟨w.heap.size, 1, none⟩ = some (.int .i64 0) := R.cell 1; have R2 : (W9).cell? ⟨w.heap.size, 2, none⟩ = some (.int .i64 0) := R.cell 2; have R3 : (W9).cell? ⟨w.heap.size, 3, none⟩ = some (.int .i64 0) := R.cell 3; have R4 : (W9).cell? ⟨w.heap.size, 4, none⟩ = some (.int .i64 0) := R.cell 4; have R5 : (W9).cell? ⟨w.heap.size, 5, none⟩ = some (.int .i64 0) := R.cell 5; have Rl : w.heap.size < (W9).heap.size := R.lt
        refine bodyPost_ret (v := .tuple #[.agg #[.int .i64 0, .int .i64 0, .int .i64 0, .int .i64 0, .int .i64 0, .int .i64 0], .bool false]) (by simp [results, Try.results18, go_sem, R0, R1, R2, R3, R4, R5]) rfl ?_
        exact st_no HE.out hR
      · have HE : Hid (stB n u v = true) := by show _ = _; rw [HD.out, h1, h2, h3]; rfl
        have hv := inB_true h3
        have hn := areaB_bd h1
        rw [h3] at H2
        obtain ⟨p1, p2, p3, p4, p5, p6, hf⟩ := scV_form n u v
        have HF := Lib.hid hf
        have hc := fun w => c_scaledTriangle n u v hn hu hv w
        rw [hf] at hc
        have HB : ∃ b, scB n u v = b := ⟨_, rfl⟩
        obtain ⟨b, hb⟩ := HB
        have HBB := Lib.hid hb
        rw [hb] at hc
        have HC := Lib.hid hc
        clear hf hc hb HD h1 h2 h3
        go_enter Try.func18, Try.ntmps18
        go_wp2_with fail
        (go_at_call 32; refine (HG.out _).mono ?_; rintro e w1 ⟨rfl, hb1⟩; obtain ⟨hc1, hf1⟩ := bcell hb1; have hz1 := hb1.size; (try simp only [World.size_alloc] at hz1); (try (have hy1 : w.heap.size < w1.heap.size := by omega)); (try (have hx1 := Nat.lt_of_succ_le hz1)); (try (have hv1 := Nat.lt_of_succ_le (Nat.le_of_lt hx1))))
        replace kT := kT.next hb1
        have hB1 : Below w.heap.size w w1 := by (repeat' (first | (with_reducible exact Below.refl _ _) | (with_reducible refine below_step (by assumption) ?_ ?_) | (with_reducible refine Below.alloc ?_ ?_ _) | (with_reducible refine Below.setCell ?_ ?_ _) | (with_reducible refine below_drewN ?_ _) | (with_reducible refine Below.drew ?_) | omega | (simp; omega) | (simp; done)))
        go_wp2_with fail
        refine (H1.out _).mono ?_
        rintro e w' ⟨rfl, rfl⟩
        go_wp2_with fail
        refine (H2.out _).mono ?_
        rintro e w' ⟨rfl, rfl⟩
        go_wp2_with fail
        refine (HC.out _).mono ?_
        rintro e w2 ⟨rfl, hb2⟩
        have kT2 := kT.next hb2
        have hB2 := below_step hb2 hB1.size hB1
        have kT20 : (w2).cell? ⟨w.heap.size, 0, none⟩ = some (.int .i64 0) := kT2.cell 0; have kT21 : (w2).cell? ⟨w.heap.size, 1, none⟩ = some (.int .i64 0) := kT2.cell 1; have kT22 : (w2).cell? ⟨w.heap.size, 2, none⟩ = some (.int .i64 0) := kT2.cell 2; have kT23 : (w2).cell? ⟨w.heap.size, 3, none⟩ = some (.int .i64 0) := kT2.cell 3; have kT24 : (w2).cell? ⟨w.heap.size, 4, none⟩ = some (.int .i64 0) := kT2.cell 4; have kT25 : (w2).cell? ⟨w.heap.size, 5, none⟩ = some (.int .i64 0) := kT2.cell 5; have kT2f0 : (w2).frozen? ⟨w.heap.size, 0, none⟩ = false := kT2.frozen 0; have kT2f1 : (w2).frozen? ⟨w.heap.size, 1, none⟩ = false := kT2.frozen 1; have kT2f2 : (w2).frozen? ⟨w.heap.size, 2, none⟩ = false := kT2.frozen 2; have kT2f3 : (w2).frozen? ⟨w.heap.size, 3, none⟩ = false := kT2.frozen 3; have kT2f4 : (w2).frozen? ⟨w.heap.size, 4, none⟩ = false := kT2.frozen 4; have kT2f5 : (w2).frozen? ⟨w.heap.size, 5, none⟩ = false := kT2.frozen 5; have kT2l : w.heap.size < (w2).heap.size := kT2.lt
        go_wp2
        have R := ((((((kT2.set 0 (.int .i64 p1)).set 1 (.int .i64 p2)).set 2 (.int .i64 p3)).set 3 (.int .i64 p4)).set 4 (.int .i64 p5)).set 5 (.int .i64 p6))
        have hR : Below w.heap.size w ((((((w2.setCell ⟨w.heap.size, 0, none⟩ (.int .i64 p1)).setCell ⟨w.heap.size, 1, none⟩ (.int .i64 p2)).setCell ⟨w.heap.size, 2, none⟩ (.int .i64 p3)).setCell ⟨w.heap.size, 3, none⟩ (.int .i64 p4)).setCell ⟨w.heap.size, 4, none⟩ (.int .i64 p5)).setCell ⟨w.heap.size, 5, none⟩ (.int .i64 p6)) := by (repeat' (first | (with_reducible exact Below.refl _ _) | (with_reducible refine below_step (by assumption) ?_ ?_) | (with_reducible refine Below.alloc ?_ ?_ _) | (with_reducible refine Below.setCell ?_ ?_ _) | (with_reducible refine below_drewN ?_ _) | (with_reducible refine Below.drew ?_) | omega | (simp; omega) | (simp; done)))
        simp only [List.setIfInBounds_toArray, List.set_cons_zero, List.set_cons_succ] at R
        clear kT2 kT20 kT21 kT22 kT23 kT24 kT25 kT2f0 kT2f1 kT2f2 kT2f3 kT2f4 kT2f5 kT2l
        generalize ((((((w2.setCell ⟨w.heap.size, 0, none⟩ (.int .i64 p1)).setCell ⟨w.heap.size, 1, none⟩ (.int .i64 p2)).setCell ⟨w.heap.size, 2, none⟩ (.int .i64 p3)).setCell ⟨w.heap.size, 3, none⟩ (.int .i64 p4)).setCell ⟨w.heap.size, 4, none⟩ (.int .i64 p5)).setCell ⟨w.heap.size, 5, none⟩ (.int .i64 p6)) = W9 at R hR ⊢
        have R0 : (W9).cell? ⟨w.heap.size, 0, none⟩ = some (.int .i64 p1) := R.cell 0; have R1 : (W9).cell? ⟨w.heap.size, 1, none⟩ = some (.int .i64 p2) := R.cell 1; have R2 : (W9).cell? ⟨w.heap.size, 2, none⟩ = some (.int .i64 p3) := R.cell 2; have R3 : (W9).cell? ⟨w.heap.size, 3, none⟩ = some (.int .i64 p4) := R.cell 3; have R4 : (W9).cell? ⟨w.heap.size, 4, none⟩ = some (.int .i64 p5) := R.cell 4; have R5 : (W9).cell? ⟨w.heap.size, 5, none⟩ = some (.int .i64 p6) := R.cell 5; have Rl : w.heap.size < (W9).heap.size := R.lt
        refine bodyPost_ret (v := .tuple #[.agg #[.int .i64 p1, .int .i64 p2, .int .i64 p3, .int .i64 p4, .int .i64 p5, .int .i64 p6], .bool b]) (by simp [results, Try.results18, go_sem, R0, R1, R2, R3, R4, R5]) rfl ?_
        exact st_yes HE.out HF.out HBB.out hR
theorem c_eqFraction (A B C D : Int) (w : World) :
    Calls Try.prog 42 #[.agg #[.int .i64 A, .int .i64 B], .agg #[.int .i64 C, .int .i64 D]] w fun e w' => e = .returned (.bool (A == C && B == D)) ∧ Below w.heap.size w w' := by
  cases h1 : (A == C) <;> cases h2 : (B == D)
  all_goals
    have h3 : (A != C) = !(A == C) := rfl
    have h4 : (B != D) = !(B == D) := rfl
    rw [h1] at h3
    rw [h2] at h4
    go_enter Try.func42, Try.ntmps42
    go_wp2
    go_ret
    refine ⟨rfl, ?_⟩
    go_grown
set_option maxHeartbeats 1000000 in
theorem c_eqTriangle (p1 p2 p3 p4 p5 p6 : Int) (w : World) :
    Calls Try.prog 8 #[.agg #[.int .i64 p1, .int .i64 p2, .int .i64 p3, .int .i64 p4, .int .i64 p5, .int .i64 p6], .agg #[.int .i64 p1, .int .i64 p2, .int .i64 p3, .int .i64 p4, .int .i64 p5, .int .i64 p6]] w fun e w' => e = .returned (.bool true) ∧ Below w.heap.size w w' := by
  have hq : ∀ a b w, Calls Try.prog 42 #[.agg #[.int .i64 a, .int .i64 b], .agg #[.int .i64 a, .int .i64 b]] w fun e w' => e = .returned (.bool true) ∧ Below w.heap.size w w' := fun a b w => by
    have := c_eqFraction a b a b w
    simpa using this
  go_enter Try.func8, Try.ntmps8
  go_wp2_with fail
  (go_at_call 42; refine (hq _ _ _).mono ?_; rintro e w1 ⟨rfl, hb1⟩; obtain ⟨hc1, hf1⟩ := bcell hb1; have hz1 := hb1.size; (try simp only [World.size_alloc] at hz1); (try (have hy1 : w.heap.size < w1.heap.size := by omega)); (try (have hx1 := Nat.lt_of_succ_le hz1)); (try (have hv1 := Nat.lt_of_succ_le (Nat.le_of_lt hx1))))
  go_wp2_with fail
  (go_at_call 42; refine (hq _ _ _).mono ?_; rintro e w2 ⟨rfl, hb2⟩; obtain ⟨hc2, hf2⟩ := bcell hb2; have hz2 := hb2.size; (try simp only [World.size_alloc] at hz2); (try (have hy2 : w.heap.size < w2.heap.size := by omega)); (try (have hx2 := Nat.lt_of_succ_le hz2)); (try (have hv2 := Nat.lt_of_succ_le (Nat.le_of_lt hx2))); (try (have hy2_1 : w1.heap.size < w2.heap.size := by omega)))
  go_wp2_with fail
  (go_at_call 42; refine (hq _ _ _).mono ?_; rintro e w3 ⟨rfl, hb3⟩; obtain ⟨hc3, hf3⟩ := bcell hb3; have hz3 := hb3.size; (try simp only [World.size_alloc] at hz3); (try (have hy3 : w.heap.size < w3.heap.size := by omega)); (try (have hx3 := Nat.lt_of_succ_le hz3)); (try (have hv3 := Nat.lt_of_succ_le (Nat.le_of_lt hx3))); (try (have hy3_1 : w1.heap.size < w3.heap.size := by omega)); (try (have hy3_2 : w2.heap.size < w3.heap.size := by omega)))
  go_wp2
  go_ret
  refine ⟨rfl, ?_⟩
  (repeat' (first | (with_reducible exact Below.refl _ _) | (with_reducible refine below_step (by assumption) ?_ ?_) | (with_reducible refine Below.alloc ?_ ?_ _) | (with_reducible refine Below.setCell ?_ ?_ _) | (with_reducible refine below_drewN ?_ _) | (with_reducible refine Below.drew ?_) | omega | (simp; omega) | (simp; done)))
end Go.Proofs.Ytcnfjapoopdiaaa
