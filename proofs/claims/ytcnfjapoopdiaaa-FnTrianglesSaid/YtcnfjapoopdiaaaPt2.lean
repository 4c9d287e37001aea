/- Walks: points of a curve (two). -/
import Derived.Test.YtcnfjapoopdiaaaPt
namespace Go.Proofs.Ytcnfjapoopdiaaa
open Go.RowKit

set_option maxHeartbeats 4000000 in
theorem c_isPoint (A B X Y E : Int) (hC : curveB A B = true) (w : World) :
    Calls Try.prog 33 #[.agg #[.int .i64 A, .int .i64 B], .agg #[.int .i64 X, .int .i64 Y, .int .i64 E]] w fun r w' => r = .returned (.bool (ptF A B X Y E)) ∧ Below w.heap.size w w' := by
  obtain ⟨hA, hB'⟩ : (-1000 ≤ A ∧ A ≤ 1000) ∧ (-10000 ≤ B ∧ B ≤ 10000) := by
    unfold curveB at hC
    simp only [Bool.and_eq_true] at hC
    exact ⟨inB_true hC.1.1, inB_true hC.1.2⟩
  have HC : Hid (∀ w, _) := fun w => c_isCurve A B w
  rw [hC] at HC
  have kC := (Blk.new w #[.int .i64 A, .int .i64 B] 49).alloc (.cells #[.int .i64 X, .int .i64 Y, .int .i64 E] 30)
  have kP := Blk.new (w.alloc (.cells #[.int .i64 A, .int .i64 B] 49)) #[.int .i64 X, .int .i64 Y, .int .i64 E] 30
  have hB : Below w.heap.size w ((w.alloc (.cells #[.int .i64 A, .int .i64 B] 49)).alloc (.cells #[.int .i64 X, .int .i64 Y, .int .i64 E] 30)) := by (repeat' (first | (with_reducible exact Below.refl _ _) | (with_reducible refine below_step (by assumption) ?_ ?_) | (with_reducible refine Below.alloc ?_ ?_ _) | (with_reducible refine Below.setCell ?_ ?_ _) | (with_reducible refine below_drewN ?_ _) | (with_reducible refine Below.drew ?_) | omega | (simp; omega) | (simp; done)))
  simp only [World.size_alloc] at kP
  have HPF : Hid (ptF A B X Y E = ((X == 0 && Y == 0 && E == 0) || finB A B X Y E)) := rfl
  have HFB : Hid (finB A B X Y E = (inB X (-10000) 10000 && inB E 1 20 && (gcdI X E == 1) && inB Y (-3000000) 3000000 && (Y * Y == cvV A B X E))) := rfl
  clear hC
  by_cases hE0 : E = 0
  · subst hE0
    have HF0 : Hid (finB A B X Y 0 = false) := by show _ = _; rw [HFB.out, show inB 0 1 20 = false by decide, Bool.and_false]; rfl
    have H2 : Hid (∀ w, _) := fun w => c_inside 0 1 20 w
    rw [show inB 0 1 20 = false by decide] at H2
    have H1 : Hid (∀ w, _) := fun w => c_inside X (-10000) 10000 w
    generalize inB X (-10000) 10000 = bx at H1
    clear HFB
    by_cases hX0 : X = 0
    · subst hX0
      by_cases hY0 : Y = 0
      · subst hY0
        have HR : Hid (ptF A B 0 0 0 = true) := by show _ = _; rw [HPF.out]; rfl
        go_enter Try.func33, Try.ntmps33
        go_wp2_with fail
        (go_at_call 77; refine (HC.out _).mono ?_; rintro e w1 ⟨rfl, hb1⟩; obtain ⟨hc1, hf1⟩ := bcell hb1; have hz1 := hb1.size; (try simp only [World.size_alloc] at hz1); (try (have hy1 : w.heap.size < w1.heap.size := by omega)); (try (have hx1 := Nat.lt_of_succ_le hz1)); (try (have hv1 := Nat.lt_of_succ_le (Nat.le_of_lt hx1))))
        replace kP := kP.next hb1
        have kP0 : (w1).cell? ⟨w.heap.size + 1, 0, none⟩ = some (.int .i64 0) := kP.cell 0; have kP1 : (w1).cell? ⟨w.heap.size + 1, 1, none⟩ = some (.int .i64 0) := kP.cell 1; have kP2 : (w1).cell? ⟨w.heap.size + 1, 2, none⟩ = some (.int .i64 0) := kP.cell 2; have kPl : w.heap.size + 1 < (w1).heap.size := kP.lt
        go_wp2
        go_ret
        exact ⟨by rw [HR.out]; rfl, by (repeat' (first | (with_reducible exact Below.refl _ _) | (with_reducible refine below_step (by assumption) ?_ ?_) | (with_reducible refine Below.alloc ?_ ?_ _) | (with_reducible refine Below.setCell ?_ ?_ _) | (with_reducible refine below_drewN ?_ _) | (with_reducible refine Below.drew ?_) | omega | (simp; omega) | (simp; done)))⟩
      · have hY1 : (Y == 0) = false := by simpa using hY0
        have HR : Hid (ptF A B 0 Y 0 = false) := by show _ = _; rw [HPF.out, HF0.out, hY1]; rfl
        clear hY0
        cases bx
        all_goals
          go_enter Try.func33, Try.ntmps33
          go_wp2_with fail
          (go_at_call 77; refine (HC.out _).mono ?_; rintro e w1 ⟨rfl, hb1⟩; obtain ⟨hc1, hf1⟩ := bcell hb1; have hz1 := hb1.size; (try simp only [World.size_alloc] at hz1); (try (have hy1 : w.heap.size < w1.heap.size := by omega)); (try (have hx1 := Nat.lt_of_succ_le hz1)); (try (have hv1 := Nat.lt_of_succ_le (Nat.le_of_lt hx1))))
          replace kP := kP.next hb1
          have kP0 : (w1).cell? ⟨w.heap.size + 1, 0, none⟩ = some (.int .i64 0) := kP.cell 0; have kP1 : (w1).cell? ⟨w.heap.size + 1, 1, none⟩ = some (.int .i64 Y) := kP.cell 1; have kP2 : (w1).cell? ⟨w.heap.size + 1, 2, none⟩ = some (.int .i64 0) := kP.cell 2; have kPl : w.heap.size + 1 < (w1).heap.size := kP.lt
          go_wp2_with (first | ((with_reducible (go_at_call 66; refine (H1.out _).mono ?_; rintro e w' ⟨rfl, rfl⟩))) | ((with_reducible (go_at_call 66; refine (H2.out _).mono ?_; rintro e w' ⟨rfl, rfl⟩))))
          go_ret
          exact ⟨by rw [HR.out]; rfl, by (repeat' (first | (with_reducible exact Below.refl _ _) | (with_reducible refine below_step (by assumption) ?_ ?_) | (with_reducible refine Below.alloc ?_ ?_ _) | (with_reducible refine Below.setCell ?_ ?_ _) | (with_reducible refine below_drewN ?_ _) | (with_reducible refine Below.drew ?_) | omega | (simp; omega) | (simp; done)))⟩
    · have hX1 : (X == 0) = false := by simpa using hX0
      have HR : Hid (ptF A B X Y 0 = false) := by show _ = _; rw [HPF.out, HF0.out, hX1]; rfl
      clear hX0
      cases bx
      all_goals
        go_enter Try.func33, Try.ntmps33
        go_wp2_with fail
        (go_at_call 77; refine (HC.out _).mono ?_; rintro e w1 ⟨rfl, hb1⟩; obtain ⟨hc1, hf1⟩ := bcell hb1; have hz1 := hb1.size; (try simp only [World.size_alloc] at hz1); (try (have hy1 : w.heap.size < w1.heap.size := by omega)); (try (have hx1 := Nat.lt_of_succ_le hz1)); (try (have hv1 := Nat.lt_of_succ_le (Nat.le_of_lt hx1))))
        replace kP := kP.next hb1
        have kP0 : (w1).cell? ⟨w.heap.size + 1, 0, none⟩ = some (.int .i64 X) := kP.cell 0; have kP1 : (w1).cell? ⟨w.heap.size + 1, 1, none⟩ = some (.int .i64 Y) := kP.cell 1; have kP2 : (w1).cell? ⟨w.heap.size + 1, 2, none⟩ = some (.int .i64 0) := kP.cell 2; have kPl : w.heap.size + 1 < (w1).heap.size := kP.lt
        go_wp2_with (first | ((with_reducible (go_at_call 66; refine (H1.out _).mono ?_; rintro e w' ⟨rfl, rfl⟩))) | ((with_reducible (go_at_call 66; refine (H2.out _).mono ?_; rintro e w' ⟨rfl, rfl⟩))))
        go_ret
        exact ⟨by rw [HR.out]; rfl, by (repeat' (first | (with_reducible exact Below.refl _ _) | (with_reducible refine below_step (by assumption) ?_ ?_) | (with_reducible refine Below.alloc ?_ ?_ _) | (with_reducible refine Below.setCell ?_ ?_ _) | (with_reducible refine below_drewN ?_ _) | (with_reducible refine Below.drew ?_) | omega | (simp; omega) | (simp; done)))⟩
  · have hE1 : (E == 0) = false := by simpa using hE0
    have HP : Hid (ptF A B X Y E = finB A B X Y E) := by show _ = _; rw [HPF.out, hE1]; simp
    clear HPF hE0
    have H1 := Lib.hid (fun w => c_inside X (-10000) 10000 w)
    have H2 := Lib.hid (fun w => c_inside E 1 20 w)
    have H4 := Lib.hid (fun w => c_inside Y (-3000000) 3000000 w)
    cases h1 : inB X (-10000) 10000
    · have HR : Hid (ptF A B X Y E = false) := by show _ = _; rw [HP.out, HFB.out, h1]; rfl
      rw [h1] at H1
      clear h1
      go_enter Try.func33, Try.ntmps33
      go_wp2_with fail
      (go_at_call 77; refine (HC.out _).mono ?_; rintro e w1 ⟨rfl, hb1⟩; obtain ⟨hc1, hf1⟩ := bcell hb1; have hz1 := hb1.size; (try simp only [World.size_alloc] at hz1); (try (have hy1 : w.heap.size < w1.heap.size := by omega)); (try (have hx1 := Nat.lt_of_succ_le hz1)); (try (have hv1 := Nat.lt_of_succ_le (Nat.le_of_lt hx1))))
      replace kP := kP.next hb1
      have kP0 : (w1).cell? ⟨w.heap.size + 1, 0, none⟩ = some (.int .i64 X) := kP.cell 0; have kP1 : (w1).cell? ⟨w.heap.size + 1, 1, none⟩ = some (.int .i64 Y) := kP.cell 1; have kP2 : (w1).cell? ⟨w.heap.size + 1, 2, none⟩ = some (.int .i64 E) := kP.cell 2; have kPl : w.heap.size + 1 < (w1).heap.size := kP.lt
      go_wp2_with fail
      refine (H1.out _).mono ?_
      rintro e w' ⟨rfl, rfl⟩
      go_wp2
      go_ret
      exact ⟨by rw [HR.out]; rfl, by (repeat' (first | (with_reducible exact Below.refl _ _) | (with_reducible refine below_step (by assumption) ?_ ?_) | (with_reducible refine Below.alloc ?_ ?_ _) | (with_reducible refine Below.setCell ?_ ?_ _) | (with_reducible refine below_drewN ?_ _) | (with_reducible refine Below.drew ?_) | omega | (simp; omega) | (simp; done)))⟩
    · have hx := inB_true h1
      rw [h1] at H1
      cases h2 : inB E 1 20
      · have HR : Hid (ptF A B X Y E = false) := by show _ = _; rw [HP.out, HFB.out, h1, h2]; rfl
        rw [h2] at H2
        clear h1 h2
        go_enter Try.func33, Try.ntmps33
        go_wp2_with fail
        (go_at_call 77; refine (HC.out _).mono ?_; rintro e w1 ⟨rfl, hb1⟩; obtain ⟨hc1, hf1⟩ := bcell hb1; have hz1 := hb1.size; (try simp only [World.size_alloc] at hz1); (try (have hy1 : w.heap.size < w1.heap.size := by omega)); (try (have hx1 := Nat.lt_of_succ_le hz1)); (try (have hv1 := Nat.lt_of_succ_le (Nat.le_of_lt hx1))))
        replace kP := kP.next hb1
        have kP0 : (w1).cell? ⟨w.heap.size + 1, 0, none⟩ = some (.int .i64 X) := kP.cell 0; have kP1 : (w1).cell? ⟨w.heap.size + 1, 1, none⟩ = some (.int .i64 Y) := kP.cell 1; have kP2 : (w1).cell? ⟨w.heap.size + 1, 2, none⟩ = some (.int .i64 E) := kP.cell 2; have kPl : w.heap.size + 1 < (w1).heap.size := kP.lt
        go_wp2_with fail
        refine (H1.out _).mono ?_
        rintro e w' ⟨rfl, rfl⟩
        go_wp2_with fail
        refine (H2.out _).mono ?_
        rintro e w' ⟨rfl, rfl⟩
        go_wp2
        go_ret
        exact ⟨by rw [HR.out]; rfl, by (repeat' (first | (with_reducible exact Below.refl _ _) | (with_reducible refine below_step (by assumption) ?_ ?_) | (with_reducible refine Below.alloc ?_ ?_ _) | (with_reducible refine Below.setCell ?_ ?_ _) | (with_reducible refine below_drewN ?_ _) | (with_reducible refine Below.drew ?_) | omega | (simp; omega) | (simp; done)))⟩
      · have he := inB_true h2
        rw [h2] at H2
        have HG := Lib.hid (fun w => c_gcd X E (by omega) (by omega) w)
        cases h3 : (gcdI X E == 1)
        · have HR : Hid (ptF A B X Y E = false) := by show _ = _; rw [HP.out, HFB.out, h1, h2, h3]; rfl
          have h3' : (gcdI X E != 1) = true := by unfold bne; rw [h3]; rfl
          clear h1 h2
          go_enter Try.func33, Try.ntmps33
          go_wp2_with fail
          (go_at_call 77; refine (HC.out _).mono ?_; rintro e w1 ⟨rfl, hb1⟩; obtain ⟨hc1, hf1⟩ := bcell hb1; have hz1 := hb1.size; (try simp only [World.size_alloc] at hz1); (try (have hy1 : w.heap.size < w1.heap.size := by omega)); (try (have hx1 := Nat.lt_of_succ_le hz1)); (try (have hv1 := Nat.lt_of_succ_le (Nat.le_of_lt hx1))))
          replace kP := kP.next hb1
          have kP0 : (w1).cell? ⟨w.heap.size + 1, 0, none⟩ = some (.int .i64 X) := kP.cell 0; have kP1 : (w1).cell? ⟨w.heap.size + 1, 1, none⟩ = some (.int .i64 Y) := kP.cell 1; have kP2 : (w1).cell? ⟨w.heap.size + 1, 2, none⟩ = some (.int .i64 E) := kP.cell 2; have kPl : w.heap.size + 1 < (w1).heap.size := kP.lt
          go_wp2_with fail
          refine (H1.out _).mono ?_
          rintro e w' ⟨rfl, rfl⟩
          go_wp2_with fail
          refine (H2.out _).mono ?_
          rintro e w' ⟨rfl, rfl⟩
          go_wp2_with fail
          refine (HG.out _).mono ?_
          rintro e w' ⟨rfl, kd, rfl⟩
          go_wp2
          go_ret
          exact ⟨by rw [HR.out]; rfl, by (repeat' (first | (with_reducible exact Below.refl _ _) | (with_reducible refine below_step (by assumption) ?_ ?_) | (with_reducible refine Below.alloc ?_ ?_ _) | (with_reducible refine Below.setCell ?_ ?_ _) | (with_reducible refine below_drewN ?_ _) | (with_reducible refine Below.drew ?_) | omega | (simp; omega) | (simp; done)))⟩
        · have h3' : (gcdI X E != 1) = false := by unfold bne; rw [h3]; rfl
          cases h4 : inB Y (-3000000) 3000000
          · have HR : Hid (ptF A B X Y E = false) := by show _ = _; rw [HP.out, HFB.out, h1, h2, h3, h4]; rfl
            rw [h4] at H4
            clear h1 h2 h4
            go_enter Try.func33, Try.ntmps33
            go_wp2_with fail
            (go_at_call 77; refine (HC.out _).mono ?_; rintro e w1 ⟨rfl, hb1⟩; obtain ⟨hc1, hf1⟩ := bcell hb1; have hz1 := hb1.size; (try simp only [World.size_alloc] at hz1); (try (have hy1 : w.heap.size < w1.heap.size := by omega)); (try (have hx1 := Nat.lt_of_succ_le hz1)); (try (have hv1 := Nat.lt_of_succ_le (Nat.le_of_lt hx1))))
            replace kP := kP.next hb1
            have kP0 : (w1).cell? ⟨w.heap.size + 1, 0, none⟩ = some (.int .i64 X) := kP.cell 0; have kP1 : (w1).cell? ⟨w.heap.size + 1, 1, none⟩ = some (.int .i64 Y) := kP.cell 1; have kP2 : (w1).cell? ⟨w.heap.size + 1, 2, none⟩ = some (.int .i64 E) := kP.cell 2; have kPl : w.heap.size + 1 < (w1).heap.size := kP.lt
            go_wp2_with fail
            refine (H1.out _).mono ?_
            rintro e w' ⟨rfl, rfl⟩
            go_wp2_with fail
            refine (H2.out _).mono ?_
            rintro e w' ⟨rfl, rfl⟩
            go_wp2_with fail
            refine (HG.out _).mono ?_
            rintro e w' ⟨rfl, kd, rfl⟩
            go_wp2_with fail
            refine (H4.out _).mono ?_
            rintro e w' ⟨rfl, rfl⟩
            go_wp2
            go_ret
            exact ⟨by rw [HR.out]; rfl, by (repeat' (first | (with_reducible exact Below.refl _ _) | (with_reducible refine below_step (by assumption) ?_ ?_) | (with_reducible refine Below.alloc ?_ ?_ _) | (with_reducible refine Below.setCell ?_ ?_ _) | (with_reducible refine below_drewN ?_ _) | (with_reducible refine Below.drew ?_) | omega | (simp; omega) | (simp; done)))⟩
          · have hy := inB_true h4
            have HR : Hid (ptF A B X Y E = (Y * Y == cvV A B X E)) := by show _ = _; rw [HP.out, HFB.out, h1, h2, h3, h4]; rfl
            rw [h4] at H4
            have hyy : 0 ≤ Y * Y ∧ Y * Y ≤ 9000000000000 := ⟨by
              rcases Int.le_total 0 Y with h | h
              · exact Int.mul_nonneg h h
              · have := Int.mul_nonneg (show 0 ≤ -Y by omega) (show 0 ≤ -Y by omega); rw [Int.neg_mul_neg] at this; exact this, by have := mulq (a := 3000000) (b := 3000000) hy hy; omega⟩
            have hwy : IntKind.i64.wrap (Y * Y) = Y * Y := IntWalk.i64_in _ (by omega)
            have HCV := Lib.hid (fun w => c_curveValue A B X E hA hB' hx he w)
            clear h1 h2 h4
            go_enter Try.func33, Try.ntmps33
            go_wp2_with fail
            (go_at_call 77; refine (HC.out _).mono ?_; rintro e w1 ⟨rfl, hb1⟩; obtain ⟨hc1, hf1⟩ := bcell hb1; have hz1 := hb1.size; (try simp only [World.size_alloc] at hz1); (try (have hy1 : w.heap.size < w1.heap.size := by omega)); (try (have hx1 := Nat.lt_of_succ_le hz1)); (try (have hv1 := Nat.lt_of_succ_le (Nat.le_of_lt hx1))))
            replace kP := kP.next hb1
            replace kC := kC.next hb1
            have hBB : Below w.heap.size w w1 := by (repeat' (first | (with_reducible exact Below.refl _ _) | (with_reducible refine below_step (by assumption) ?_ ?_) | (with_reducible refine Below.alloc ?_ ?_ _) | (with_reducible refine Below.setCell ?_ ?_ _) | (with_reducible refine below_drewN ?_ _) | (with_reducible refine Below.drew ?_) | omega | (simp; omega) | (simp; done)))
            have kP0 : (w1).cell? ⟨w.heap.size + 1, 0, none⟩ = some (.int .i64 X) := kP.cell 0; have kP1 : (w1).cell? ⟨w.heap.size + 1, 1, none⟩ = some (.int .i64 Y) := kP.cell 1; have kP2 : (w1).cell? ⟨w.heap.size + 1, 2, none⟩ = some (.int .i64 E) := kP.cell 2; have kPl : w.heap.size + 1 < (w1).heap.size := kP.lt
            go_wp2_with fail
            refine (H1.out _).mono ?_
            rintro e w' ⟨rfl, rfl⟩
            go_wp2_with fail
            refine (H2.out _).mono ?_
            rintro e w' ⟨rfl, rfl⟩
            go_wp2_with fail
            refine (HG.out _).mono ?_
            rintro e w' ⟨rfl, kd, rfl⟩
            go_wp2_with fail
            refine (H4.out _).mono ?_
            rintro e w' ⟨rfl, rfl⟩
            go_wp2
            have kP2 := kP.drewN kd
            have kC2 := kC.drewN kd
            have hB2 := below_drewN hBB kd
            clear kP kC hBB hb1 hc1 hf1 hB
            generalize w1.drewN kd = W at *
            have kP20 : (W).cell? ⟨w.heap.size + 1, 0, none⟩ = some (.int .i64 X) := kP2.cell 0; have kP21 : (W).cell? ⟨w.heap.size + 1, 1, none⟩ = some (.int .i64 Y) := kP2.cell 1; have kP22 : (W).cell? ⟨w.heap.size + 1, 2, none⟩ = some (.int .i64 E) := kP2.cell 2; have kP2l : w.heap.size + 1 < (W).heap.size := kP2.lt
            have kC20 : (W).cell? ⟨w.heap.size, 0, none⟩ = some (.int .i64 A) := kC2.cell 0; have kC21 : (W).cell? ⟨w.heap.size, 1, none⟩ = some (.int .i64 B) := kC2.cell 1; have kC2l : w.heap.size < (W).heap.size := kC2.lt
            have hs2 := hB2.size
            (refine wp_region_clq (by kernel_rfl) (by kernel_rfl) ?_; (repeat (go_big_quiet_step ((go_at_call 79; exact Calls.quiet_cls Closed.true _ (HCV.out _))))); refine wpQuiet_nil ?_; intro w5 hb5; obtain ⟨hc5, hf5⟩ := bcell hb5; have hz5 := hb5.size; (try simp only [World.size_alloc] at hz5))
            go_wp2
            go_ret
            exact ⟨by rw [HR.out]; rfl, below_step hb5 hs2 hB2⟩
end Go.Proofs.Ytcnfjapoopdiaaa
