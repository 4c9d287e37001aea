/- Walks: points of a curve, the reference's. -/
import Derived.Test.YtcnfjapoopdiaaaPt
namespace Go.Proofs.Ytcnfjapoopdiaaa
open Go.RowKit

set_option maxHeartbeats 4000000 in
theorem c_ptOn (A B X Y E : Int) (hA : -1000 ≤ A ∧ A ≤ 1000) (hB' : -10000 ≤ B ∧ B ≤ 10000) (w : World) :
    Calls Try.prog 28 #[.agg #[.int .i64 A, .int .i64 B], .agg #[.int .i64 X, .int .i64 Y, .int .i64 E]] w fun r w' => r = .returned (.bool (ptF A B X Y E)) ∧ Below w.heap.size w w' := by
  have kC := (Blk.new w #[.int .i64 A, .int .i64 B] 49).alloc (.cells #[.int .i64 X, .int .i64 Y, .int .i64 E] 30)
  have kP := Blk.new (w.alloc (.cells #[.int .i64 A, .int .i64 B] 49)) #[.int .i64 X, .int .i64 Y, .int .i64 E] 30
  have hB : Below w.heap.size w ((w.alloc (.cells #[.int .i64 A, .int .i64 B] 49)).alloc (.cells #[.int .i64 X, .int .i64 Y, .int .i64 E] 30)) := by (repeat' (first | (with_reducible exact Below.refl _ _) | (with_reducible refine below_step (by assumption) ?_ ?_) | (with_reducible refine Below.alloc ?_ ?_ _) | (with_reducible refine Below.setCell ?_ ?_ _) | (with_reducible refine below_drewN ?_ _) | (with_reducible refine Below.drew ?_) | omega | (simp; omega) | (simp; done)))
  simp only [World.size_alloc] at kP
  have HPF : Hid (ptF A B X Y E = ((X == 0 && Y == 0 && E == 0) || finB A B X Y E)) := rfl
  have HFB : Hid (finB A B X Y E = (inB X (-10000) 10000 && inB E 1 20 && (gcdI X E == 1) && inB Y (-3000000) 3000000 && (Y * Y == cvV A B X E))) := rfl
  by_cases hE0 : E = 0
  · subst hE0
    have HF0 : Hid (finB A B X Y 0 = false) := by show _ = _; rw [HFB.out, show inB 0 1 20 = false by decide, Bool.and_false]; rfl
    have HR : Hid (ptF A B X Y 0 = (X == 0 && Y == 0)) := by show _ = _; rw [HPF.out, HF0.out]; simp
    clear HPF HFB HF0
    cases hx : (X == 0) <;> cases hy : (Y == 0)
    all_goals
      rw [hx, hy] at HR
      go_enter Try.func28, Try.ntmps28
      go_wp2
      go_ret
      refine ⟨by rw [HR.out]; rfl, ?_⟩
      (repeat' (first | (with_reducible exact Below.refl _ _) | (with_reducible refine below_step (by assumption) ?_ ?_) | (with_reducible refine Below.alloc ?_ ?_ _) | (with_reducible refine Below.setCell ?_ ?_ _) | (with_reducible refine below_drewN ?_ _) | (with_reducible refine Below.drew ?_) | omega | (simp; omega) | (simp; done)))
  · have hE1 : (E == 0) = false := by simpa using hE0
    have HP : Hid (ptF A B X Y E = finB A B X Y E) := by show _ = _; rw [HPF.out, hE1]; simp
    clear HPF hE0
    have H1 := Lib.hid (fun w => c_l1In X (-10000) 10000 w)
    have H2 := Lib.hid (fun w => c_l1In E 1 20 w)
    have H4 := Lib.hid (fun w => c_l1In Y (-10000000) 10000000 w)
    have HAb : Hid True := trivial
    have HG : Hid True := trivial
    cases h1 : inB X (-10000) 10000
    · have HR : Hid (ptF A B X Y E = false) := by show _ = _; rw [HP.out, HFB.out, h1]; rfl
      rw [h1] at H1
      clear h1 HP HFB
      go_enter Try.func28, Try.ntmps28
      go_wp2
      generalize (w.alloc _).alloc _ = W at *
      have kP0 : (W).cell? ⟨w.heap.size + 1, 0, none⟩ = some (.int .i64 X) := kP.cell 0; have kP1 : (W).cell? ⟨w.heap.size + 1, 1, none⟩ = some (.int .i64 Y) := kP.cell 1; have kP2 : (W).cell? ⟨w.heap.size + 1, 2, none⟩ = some (.int .i64 E) := kP.cell 2; have kPl : w.heap.size + 1 < (W).heap.size := kP.lt
      (refine wp_region_clq (by kernel_rfl) (by kernel_rfl) ?_; (repeat (go_big_quiet_step ((first | (with_reducible (go_at_call 53; exact Calls.quiet_clsS _ (H1.out _))) | (with_reducible (go_at_call 53; exact Calls.quiet_clsS _ (H2.out _))) | (with_reducible (go_at_call 53; exact Calls.quiet_clsS _ (H4.out _))) | (go_at_call 72; exact Calls.quiet_clsS _ (HAb.out _)) | (go_at_call 71; exact Calls.quiet_clsS _ (HG.out _)))))); refine wpQuiet_nil ?_; intro w3 hb3; obtain ⟨hc3, hf3⟩ := bcell hb3; have hz3 := hb3.size; (try simp only [World.size_alloc] at hz3))
      have hb9 := below_step hb3 hB.size hB
      go_wp2
      go_ret
      exact ⟨by rw [HR.out]; rfl, hb9⟩
    · have hx := inB_true h1
      rw [h1] at H1
      cases h2 : inB E 1 20
      · have HR : Hid (ptF A B X Y E = false) := by show _ = _; rw [HP.out, HFB.out, h1, h2]; rfl
        rw [h2] at H2
        clear h1 h2 HP HFB
        go_enter Try.func28, Try.ntmps28
        go_wp2
        generalize (w.alloc _).alloc _ = W at *
        have kP0 : (W).cell? ⟨w.heap.size + 1, 0, none⟩ = some (.int .i64 X) := kP.cell 0; have kP1 : (W).cell? ⟨w.heap.size + 1, 1, none⟩ = some (.int .i64 Y) := kP.cell 1; have kP2 : (W).cell? ⟨w.heap.size + 1, 2, none⟩ = some (.int .i64 E) := kP.cell 2; have kPl : w.heap.size + 1 < (W).heap.size := kP.lt
        (refine wp_region_clq (by kernel_rfl) (by kernel_rfl) ?_; (repeat (go_big_quiet_step ((first | (with_reducible (go_at_call 53; exact Calls.quiet_clsS _ (H1.out _))) | (with_reducible (go_at_call 53; exact Calls.quiet_clsS _ (H2.out _))) | (with_reducible (go_at_call 53; exact Calls.quiet_clsS _ (H4.out _))) | (go_at_call 72; exact Calls.quiet_clsS _ (HAb.out _)) | (go_at_call 71; exact Calls.quiet_clsS _ (HG.out _)))))); refine wpQuiet_nil ?_; intro w3 hb3; obtain ⟨hc3, hf3⟩ := bcell hb3; have hz3 := hb3.size; (try simp only [World.size_alloc] at hz3))
        have hb9 := below_step hb3 hB.size hB
        go_wp2
        go_ret
        exact ⟨by rw [HR.out]; rfl, hb9⟩
      · have he := inB_true h2
        rw [h2] at H2
        have HYS := Lib.hid (y_small (Y := Y) hA hB' hx he)
        cases h4 : inB Y (-10000000) 10000000
        · have HR : Hid (ptF A B X Y E = false) := by
            show _ = _
            have := HYS.out
            rw [h4, Bool.false_and] at this
            rw [HP.out, HFB.out, h1, h2, Bool.and_assoc, ← this, Bool.and_false]
          rw [h4] at H4
          clear h1 h2 h4 HP HFB HYS
          go_enter Try.func28, Try.ntmps28
          go_wp2
          generalize (w.alloc _).alloc _ = W at *
          have kP0 : (W).cell? ⟨w.heap.size + 1, 0, none⟩ = some (.int .i64 X) := kP.cell 0; have kP1 : (W).cell? ⟨w.heap.size + 1, 1, none⟩ = some (.int .i64 Y) := kP.cell 1; have kP2 : (W).cell? ⟨w.heap.size + 1, 2, none⟩ = some (.int .i64 E) := kP.cell 2; have kPl : w.heap.size + 1 < (W).heap.size := kP.lt
          (refine wp_region_clq (by kernel_rfl) (by kernel_rfl) ?_; (repeat (go_big_quiet_step ((first | (with_reducible (go_at_call 53; exact Calls.quiet_clsS _ (H1.out _))) | (with_reducible (go_at_call 53; exact Calls.quiet_clsS _ (H2.out _))) | (with_reducible (go_at_call 53; exact Calls.quiet_clsS _ (H4.out _))) | (go_at_call 72; exact Calls.quiet_clsS _ (HAb.out _)) | (go_at_call 71; exact Calls.quiet_clsS _ (HG.out _)))))); refine wpQuiet_nil ?_; intro w3 hb3; obtain ⟨hc3, hf3⟩ := bcell hb3; have hz3 := hb3.size; (try simp only [World.size_alloc] at hz3))
          have hb9 := below_step hb3 hB.size hB
          go_wp2
          go_ret
          exact ⟨by rw [HR.out]; rfl, hb9⟩
        · have hy := inB_true h4
          rw [h4] at H4
          clear HAb HG
          have HAb := Lib.hid (fun w => c_l1Abs X (by omega) w)
          have hg := fun w => c_bgCommon X.natAbs E (by omega) (by omega) w
          rw [gcdI_absl] at hg
          have HG := Lib.hid hg
          clear hg
          cases h3 : (gcdI X E == 1)
          · have HR : Hid (ptF A B X Y E = false) := by show _ = _; rw [HP.out, HFB.out, h1, h2, h3]; rfl
            have h3' : (gcdI X E != 1) = true := by unfold bne; rw [h3]; rfl
            clear h1 h2 h4 HP HFB HYS
            go_enter Try.func28, Try.ntmps28
            go_wp2
            generalize (w.alloc _).alloc _ = W at *
            have kP0 : (W).cell? ⟨w.heap.size + 1, 0, none⟩ = some (.int .i64 X) := kP.cell 0; have kP1 : (W).cell? ⟨w.heap.size + 1, 1, none⟩ = some (.int .i64 Y) := kP.cell 1; have kP2 : (W).cell? ⟨w.heap.size + 1, 2, none⟩ = some (.int .i64 E) := kP.cell 2; have kPl : w.heap.size + 1 < (W).heap.size := kP.lt
            (refine wp_region_clq (by kernel_rfl) (by kernel_rfl) ?_; (repeat (go_big_quiet_step ((first | (with_reducible (go_at_call 53; exact Calls.quiet_clsS _ (H1.out _))) | (with_reducible (go_at_call 53; exact Calls.quiet_clsS _ (H2.out _))) | (with_reducible (go_at_call 53; exact Calls.quiet_clsS _ (H4.out _))) | (go_at_call 72; exact Calls.quiet_clsS _ (HAb.out _)) | (go_at_call 71; exact Calls.quiet_clsS _ (HG.out _)))))); refine wpQuiet_nil ?_; intro w3 hb3; obtain ⟨hc3, hf3⟩ := bcell hb3; have hz3 := hb3.size; (try simp only [World.size_alloc] at hz3))
            have hb9 := below_step hb3 hB.size hB
            go_wp2
            go_ret
            exact ⟨by rw [HR.out]; rfl, hb9⟩
          · have h3' : (gcdI X E != 1) = false := by unfold bne; rw [h3]; rfl
            have HR : Hid (ptF A B X Y E = (Y * Y == cvV A B X E)) := by
              show _ = _
              have := HYS.out
              rw [h4, Bool.true_and] at this
              rw [HP.out, HFB.out, h1, h2, h3, Bool.and_assoc, ← this]; rfl
            have hyy : 0 ≤ Y * Y ∧ Y * Y ≤ 100000000000000 := ⟨by
              rcases Int.le_total 0 Y with h | h
              · exact Int.mul_nonneg h h
              · have := Int.mul_nonneg (show 0 ≤ -Y by omega) (show 0 ≤ -Y by omega); rw [Int.neg_mul_neg] at this; exact this, by have := mulq (a := 10000000) (b := 10000000) hy hy; omega⟩
            have hwy : IntKind.i64.wrap (Y * Y) = Y * Y := IntWalk.i64_in _ (by omega)
            have HCV := Lib.hid (fun w => c_ptValue A B X E hA hB' hx he w)
            clear h1 h2 h4 HP HFB HYS
            go_enter Try.func28, Try.ntmps28
            go_wp2
            generalize (w.alloc _).alloc _ = W at *
            have kP0 : (W).cell? ⟨w.heap.size + 1, 0, none⟩ = some (.int .i64 X) := kP.cell 0; have kP1 : (W).cell? ⟨w.heap.size + 1, 1, none⟩ = some (.int .i64 Y) := kP.cell 1; have kP2 : (W).cell? ⟨w.heap.size + 1, 2, none⟩ = some (.int .i64 E) := kP.cell 2; have kPl : w.heap.size + 1 < (W).heap.size := kP.lt
            (refine wp_region_clq (by kernel_rfl) (by kernel_rfl) ?_; (repeat (go_big_quiet_step ((first | (with_reducible (go_at_call 53; exact Calls.quiet_clsS _ (H1.out _))) | (with_reducible (go_at_call 53; exact Calls.quiet_clsS _ (H2.out _))) | (with_reducible (go_at_call 53; exact Calls.quiet_clsS _ (H4.out _))) | (go_at_call 72; exact Calls.quiet_clsS _ (HAb.out _)) | (go_at_call 71; exact Calls.quiet_clsS _ (HG.out _)))))); refine wpQuiet_nil ?_; intro w3 hb3; obtain ⟨hc3, hf3⟩ := bcell hb3; have hz3 := hb3.size; (try simp only [World.size_alloc] at hz3))
            have hb9 := below_step hb3 hB.size hB
            have kP2 := kP.next hb3
            have kC2 := kC.next hb3
            clear hb3 hc3 hf3 kP kC hB
            go_wp2
            have kP20 : (w3).cell? ⟨w.heap.size + 1, 0, none⟩ = some (.int .i64 X) := kP2.cell 0; have kP21 : (w3).cell? ⟨w.heap.size + 1, 1, none⟩ = some (.int .i64 Y) := kP2.cell 1; have kP22 : (w3).cell? ⟨w.heap.size + 1, 2, none⟩ = some (.int .i64 E) := kP2.cell 2; have kP2l : w.heap.size + 1 < (w3).heap.size := kP2.lt
            have kC20 : (w3).cell? ⟨w.heap.size, 0, none⟩ = some (.int .i64 A) := kC2.cell 0; have kC21 : (w3).cell? ⟨w.heap.size, 1, none⟩ = some (.int .i64 B) := kC2.cell 1; have kC2l : w.heap.size < (w3).heap.size := kC2.lt
            have hs9 := hb9.size
            (refine wp_region_clq (by kernel_rfl) (by kernel_rfl) ?_; (repeat (go_big_quiet_step ((go_at_call 73; exact Calls.quiet_cls Closed.true _ (HCV.out _))))); refine wpQuiet_nil ?_; intro w5 hb5; obtain ⟨hc5, hf5⟩ := bcell hb5; have hz5 := hb5.size; (try simp only [World.size_alloc] at hz5))
            go_wp2
            go_ret
            exact ⟨by rw [HR.out]; rfl, below_step hb5 hs9 hb9⟩
end Go.Proofs.Ytcnfjapoopdiaaa
