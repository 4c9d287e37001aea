/- Walks: the triangle of a point, the reference's own. -/
import Derived.Test.YtcnfjapoopdiaaaTof
import Derived.Test.YtcnfjapoopdiaaaPtS
import Derived.Deep.Cut
namespace Go.Proofs.Ytcnfjapoopdiaaa
open Go.RowKit

noncomputable def gtB (n X Y E : Int) : Bool := areaB n && ptF (-n * n) 0 X Y E && !(Y == 0)
theorem tofP_form (a b c d e f : Int) (o : Bool) : ∃ p1 p2 p3 p4 p5 p6 : Int, ∀ w, tofP w a b c d e f o = fun r w' => r = .returned (.tuple #[.agg #[.int .i64 p1, .int .i64 p2, .int .i64 p3, .int .i64 p4, .int .i64 p5, .int .i64 p6], .bool o]) ∧ Below w.heap.size w w' := by
  cases o
  · exact ⟨0, 0, 0, 0, 0, 0, fun w => rfl⟩
  · obtain ⟨p1, p2, p3, p4, p5, p6, hf⟩ := ordV_form a b c d e f
    refine ⟨p1, p2, p3, p4, p5, p6, fun w => ?_⟩
    unfold tofP TriPost
    rw [if_pos rfl, hf]
theorem tofP_of {w w' : World} {a b c d e f : Int} {o : Bool} {r : Ending} {p1 p2 p3 p4 p5 p6 : Int} (h : ∀ w, tofP w a b c d e f o = fun r w' => r = .returned (.tuple #[.agg #[.int .i64 p1, .int .i64 p2, .int .i64 p3, .int .i64 p4, .int .i64 p5, .int .i64 p6], .bool o]) ∧ Below w.heap.size w w') (k : r = .returned (.tuple #[.agg #[.int .i64 p1, .int .i64 p2, .int .i64 p3, .int .i64 p4, .int .i64 p5, .int .i64 p6], .bool o]) ∧ Below w.heap.size w w') : tofP w a b c d e f o r w' := by rw [h]; exact k
set_option maxHeartbeats 2000000 in
set_option maxRecDepth 100000 in
theorem c_sTofNo (n X Y E a b c d e f : Int) (h : gtB n X Y E = false) (w : World) :
    Calls Try.prog 5 #[.int .i64 n, .agg #[.int .i64 X, .int .i64 Y, .int .i64 E]] w (tofP w a b c d e f false) := by
  have HG : Hid (∀ w, _) := fun w => c_cnGood n w
  have kP := (Blk.new w #[.int .i64 X, .int .i64 Y, .int .i64 E] 30).alloc (.cells #[.int .i64 0, .int .i64 0, .int .i64 0, .int .i64 0, .int .i64 0, .int .i64 0] 27)
  have kT := Blk.new (w.alloc (.cells #[.int .i64 X, .int .i64 Y, .int .i64 E] 30)) #[.int .i64 0, .int .i64 0, .int .i64 0, .int .i64 0, .int .i64 0, .int .i64 0] 27
  simp only [World.size_alloc] at kT
  have hB : Below w.heap.size w ((w.alloc (.cells #[.int .i64 X, .int .i64 Y, .int .i64 E] 30)).alloc (.cells #[.int .i64 0, .int .i64 0, .int .i64 0, .int .i64 0, .int .i64 0, .int .i64 0] 27)) := by (repeat' (first | (with_reducible exact Below.refl _ _) | (with_reducible refine below_step (by assumption) ?_ ?_) | (with_reducible refine Below.alloc ?_ ?_ _) | (with_reducible refine Below.setCell ?_ ?_ _) | (with_reducible refine below_drewN ?_ _) | (with_reducible refine Below.drew ?_) | omega | (simp; omega) | (simp; done)))
  have hs := hB.size
  cases ha : areaB n
  · rw [ha] at HG
    clear h ha
    go_enter Try.func5, Try.ntmps5
    go_wp2
    generalize ((w.alloc (.cells #[.int .i64 X, .int .i64 Y, .int .i64 E] 30)).alloc (.cells #[.int .i64 0, .int .i64 0, .int .i64 0, .int .i64 0, .int .i64 0, .int .i64 0] 27)) = W at *
    have kP0 : (W).cell? ⟨w.heap.size, 0, none⟩ = some (.int .i64 X) := kP.cell 0; have kP1 : (W).cell? ⟨w.heap.size, 1, none⟩ = some (.int .i64 Y) := kP.cell 1; have kP2 : (W).cell? ⟨w.heap.size, 2, none⟩ = some (.int .i64 E) := kP.cell 2; have kPl : w.heap.size < (W).heap.size := kP.lt
    (refine wp_region_clq (by kernel_rfl) (by kernel_rfl) ?_; (repeat (go_big_quiet_step ((go_at_call 27; exact Calls.quiet_cls Closed.true _ (HG.out _))))); refine wpQuiet_nil ?_; intro w1 hb1; obtain ⟨hc1, hf1⟩ := bcell hb1; have hz1 := hb1.size; (try simp only [World.size_alloc] at hz1))
    have hb9 := hb1
    clear hb1 hc1 hf1 kP0 kP1 kP2 kPl
    replace kP := kP.next hb9
    replace kT := kT.next hb9
    replace hB := below_step hb9 hs hB
    replace hs := hB.size
    clear hb9
    have kT0 : (w1).cell? ⟨w.heap.size + 1, 0, none⟩ = some (.int .i64 0) := kT.cell 0; have kT1 : (w1).cell? ⟨w.heap.size + 1, 1, none⟩ = some (.int .i64 0) := kT.cell 1; have kT2 : (w1).cell? ⟨w.heap.size + 1, 2, none⟩ = some (.int .i64 0) := kT.cell 2; have kT3 : (w1).cell? ⟨w.heap.size + 1, 3, none⟩ = some (.int .i64 0) := kT.cell 3; have kT4 : (w1).cell? ⟨w.heap.size + 1, 4, none⟩ = some (.int .i64 0) := kT.cell 4; have kT5 : (w1).cell? ⟨w.heap.size + 1, 5, none⟩ = some (.int .i64 0) := kT.cell 5; have kTf0 : (w1).frozen? ⟨w.heap.size + 1, 0, none⟩ = false := kT.frozen 0; have kTf1 : (w1).frozen? ⟨w.heap.size + 1, 1, none⟩ = false := kT.frozen 1; have kTf2 : (w1).frozen? ⟨w.heap.size + 1, 2, none⟩ = false := kT.frozen 2; have kTf3 : (w1).frozen? ⟨w.heap.size + 1, 3, none⟩ = false := kT.frozen 3; have kTf4 : (w1).frozen? ⟨w.heap.size + 1, 4, none⟩ = false := kT.frozen 4; have kTf5 : (w1).frozen? ⟨w.heap.size + 1, 5, none⟩ = false := kT.frozen 5; have kTl : w.heap.size + 1 < (w1).heap.size := kT.lt
    go_wp2
    have R := ((((((kT.set 0 (.int .i64 0)).set 1 (.int .i64 0)).set 2 (.int .i64 0)).set 3 (.int .i64 0)).set 4 (.int .i64 0)).set 5 (.int .i64 0))
    have hR : Below w.heap.size w ((((((w1.setCell ⟨w.heap.size + 1, 0, none⟩ (.int .i64 0)).setCell ⟨w.heap.size + 1, 1, none⟩ (.int .i64 0)).setCell ⟨w.heap.size + 1, 2, none⟩ (.int .i64 0)).setCell ⟨w.heap.size + 1, 3, none⟩ (.int .i64 0)).setCell ⟨w.heap.size + 1, 4, none⟩ (.int .i64 0)).setCell ⟨w.heap.size + 1, 5, none⟩ (.int .i64 0)) := by (repeat' (first | (with_reducible exact Below.refl _ _) | (with_reducible refine below_step (by assumption) ?_ ?_) | (with_reducible refine Below.alloc ?_ ?_ _) | (with_reducible refine Below.setCell ?_ ?_ _) | (with_reducible refine below_drewN ?_ _) | (with_reducible refine Below.drew ?_) | omega | (simp; omega) | (simp; done)))
    simp only [List.setIfInBounds_toArray, List.set_cons_zero, List.set_cons_succ] at R
    clear kT kT0 kT1 kT2 kT3 kT4 kT5 kTf0 kTf1 kTf2 kTf3 kTf4 kTf5 kTl
    generalize ((((((w1.setCell ⟨w.heap.size + 1, 0, none⟩ (.int .i64 0)).setCell ⟨w.heap.size + 1, 1, none⟩ (.int .i64 0)).setCell ⟨w.heap.size + 1, 2, none⟩ (.int .i64 0)).setCell ⟨w.heap.size + 1, 3, none⟩ (.int .i64 0)).setCell ⟨w.heap.size + 1, 4, none⟩ (.int .i64 0)).setCell ⟨w.heap.size + 1, 5, none⟩ (.int .i64 0)) = W9 at R hR ⊢
    have R0 : (W9).cell? ⟨w.heap.size + 1, 0, none⟩ = some (.int .i64 0) := R.cell 0; have R1 : (W9).cell? ⟨w.heap.size + 1, 1, none⟩ = some (.int .i64 0) := R.cell 1; have R2 : (W9).cell? ⟨w.heap.size + 1, 2, none⟩ = some (.int .i64 0) := R.cell 2; have R3 : (W9).cell? ⟨w.heap.size + 1, 3, none⟩ = some (.int .i64 0) := R.cell 3; have R4 : (W9).cell? ⟨w.heap.size + 1, 4, none⟩ = some (.int .i64 0) := R.cell 4; have R5 : (W9).cell? ⟨w.heap.size + 1, 5, none⟩ = some (.int .i64 0) := R.cell 5; have Rl : w.heap.size + 1 < (W9).heap.size := R.lt
    refine bodyPost_ret (v := .tuple #[.agg #[.int .i64 0, .int .i64 0, .int .i64 0, .int .i64 0, .int .i64 0, .int .i64 0], .bool false]) (by simp [results, Try.results5, go_sem, R0, R1, R2, R3, R4, R5]) rfl ?_
    exact tofP_no rfl hR
  · rw [ha] at HG
    have hn := inB_true (by unfold areaB at ha; simp only [Bool.and_eq_true] at ha; exact ha.1 : inB n 1 31 = true)
    have hq := congA_bd hn.1 hn.2
    have HC : Hid (∀ w, _) := fun w => c_cnCurve n hn.1 hn.2 w
    have HI : Hid (∀ w, _) := fun w => c_ptOn (congA n) 0 X Y E (by unfold congA; omega) (by omega) w
    have hg : (ptF (congA n) 0 X Y E && !(Y == 0)) = false := by unfold gtB at h; rw [ha, Bool.true_and] at h; exact h
    clear h ha hq
    cases hp : ptF (congA n) 0 X Y E
    · rw [hp] at HI
      clear hg hp
      generalize congA n = A at *
      go_enter Try.func5, Try.ntmps5
      go_wp2
      generalize ((w.alloc (.cells #[.int .i64 X, .int .i64 Y, .int .i64 E] 30)).alloc (.cells #[.int .i64 0, .int .i64 0, .int .i64 0, .int .i64 0, .int .i64 0, .int .i64 0] 27)) = W at *
      have kP0 : (W).cell? ⟨w.heap.size, 0, none⟩ = some (.int .i64 X) := kP.cell 0; have kP1 : (W).cell? ⟨w.heap.size, 1, none⟩ = some (.int .i64 Y) := kP.cell 1; have kP2 : (W).cell? ⟨w.heap.size, 2, none⟩ = some (.int .i64 E) := kP.cell 2; have kPl : w.heap.size < (W).heap.size := kP.lt
      (refine wp_region_clq (by kernel_rfl) (by kernel_rfl) ?_; (repeat (go_big_quiet_step ((first | (go_at_call 27; exact Calls.quiet_cls Closed.true _ (HG.out _)) | (go_at_call 29; exact Calls.quiet_cls Closed.true _ (HC.out _)) | (go_at_call 28; exact Calls.quiet_cls Closed.true _ (HI.out _)))))); refine wpQuiet_nil ?_; intro w1 hb1; obtain ⟨hc1, hf1⟩ := bcell hb1; have hz1 := hb1.size; (try simp only [World.size_alloc] at hz1))
      have hb9 := hb1
      clear hb1 hc1 hf1 kP0 kP1 kP2 kPl
      replace kP := kP.next hb9
      replace kT := kT.next hb9
      replace hB := below_step hb9 hs hB
      replace hs := hB.size
      clear hb9
      have kT0 : (w1).cell? ⟨w.heap.size + 1, 0, none⟩ = some (.int .i64 0) := kT.cell 0; have kT1 : (w1).cell? ⟨w.heap.size + 1, 1, none⟩ = some (.int .i64 0) := kT.cell 1; have kT2 : (w1).cell? ⟨w.heap.size + 1, 2, none⟩ = some (.int .i64 0) := kT.cell 2; have kT3 : (w1).cell? ⟨w.heap.size + 1, 3, none⟩ = some (.int .i64 0) := kT.cell 3; have kT4 : (w1).cell? ⟨w.heap.size + 1, 4, none⟩ = some (.int .i64 0) := kT.cell 4; have kT5 : (w1).cell? ⟨w.heap.size + 1, 5, none⟩ = some (.int .i64 0) := kT.cell 5; have kTf0 : (w1).frozen? ⟨w.heap.size + 1, 0, none⟩ = false := kT.frozen 0; have kTf1 : (w1).frozen? ⟨w.heap.size + 1, 1, none⟩ = false := kT.frozen 1; have kTf2 : (w1).frozen? ⟨w.heap.size + 1, 2, none⟩ = false := kT.frozen 2; have kTf3 : (w1).frozen? ⟨w.heap.size + 1, 3, none⟩ = false := kT.frozen 3; have kTf4 : (w1).frozen? ⟨w.heap.size + 1, 4, none⟩ = false := kT.frozen 4; have kTf5 : (w1).frozen? ⟨w.heap.size + 1, 5, none⟩ = false := kT.frozen 5; have kTl : w.heap.size + 1 < (w1).heap.size := kT.lt
      go_wp2
      have R := ((((((kT.set 0 (.int .i64 0)).set 1 (.int .i64 0)).set 2 (.int .i64 0)).set 3 (.int .i64 0)).set 4 (.int .i64 0)).set 5 (.int .i64 0))
      have hR : Below w.heap.size w ((((((w1.setCell ⟨w.heap.size + 1, 0, none⟩ (.int .i64 0)).setCell ⟨w.heap.size + 1, 1, none⟩ (.int .i64 0)).setCell ⟨w.heap.size + 1, 2, none⟩ (.int .i64 0)).setCell ⟨w.heap.size + 1, 3, none⟩ (.int .i64 0)).setCell ⟨w.heap.size + 1, 4, none⟩ (.int .i64 0)).setCell ⟨w.heap.size + 1, 5, none⟩ (.int .i64 0)) := by (repeat' (first | (with_reducible exact Below.refl _ _) | (with_reducible refine below_step (by assumption) ?_ ?_) | (with_reducible refine Below.alloc ?_ ?_ _) | (with_reducible refine Below.setCell ?_ ?_ _) | (with_reducible refine below_drewN ?_ _) | (with_reducible refine Below.drew ?_) | omega | (simp; omega) | (simp; done)))
      simp only [List.setIfInBounds_toArray, List.set_cons_zero, List.set_cons_succ] at R
      clear kT kT0 kT1 kT2 kT3 kT4 kT5 kTf0 kTf1 kTf2 kTf3 kTf4 kTf5 kTl
      generalize ((((((w1.setCell ⟨w.heap.size + 1, 0, none⟩ (.int .i64 0)).setCell ⟨w.heap.size + 1, 1, none⟩ (.int .i64 0)).setCell ⟨w.heap.size + 1, 2, none⟩ (.int .i64 0)).setCell ⟨w.heap.size + 1, 3, none⟩ (.int .i64 0)).setCell ⟨w.heap.size + 1, 4, none⟩ (.int .i64 0)).setCell ⟨w.heap.size + 1, 5, none⟩ (.int .i64 0)) = W9 at R hR ⊢
      have R0 : (W9).cell? ⟨w.heap.size + 1, 0, none⟩ = some (.int .i64 0) := R.cell 0; have R1 : (W9).cell? ⟨w.heap.size + 1, 1, none⟩ = some (.int .i64 0) := R.cell 1; have R2 : (W9).cell? ⟨w.heap.size + 1, 2, none⟩ = some (.int .i64 0) := R.cell 2; have R3 : (W9).cell? ⟨w.heap.size + 1, 3, none⟩ = some (.int .i64 0) := R.cell 3; have R4 : (W9).cell? ⟨w.heap.size + 1, 4, none⟩ = some (.int .i64 0) := R.cell 4; have R5 : (W9).cell? ⟨w.heap.size + 1, 5, none⟩ = some (.int .i64 0) := R.cell 5; have Rl : w.heap.size + 1 < (W9).heap.size := R.lt
      refine bodyPost_ret (v := .tuple #[.agg #[.int .i64 0, .int .i64 0, .int .i64 0, .int .i64 0, .int .i64 0, .int .i64 0], .bool false]) (by simp [results, Try.results5, go_sem, R0, R1, R2, R3, R4, R5]) rfl ?_
      exact tofP_no rfl hR
    · rw [hp] at hg HI
      have hY : Y = 0 := by simpa using hg
      subst hY
      clear hg hp
      generalize congA n = A at *
      by_cases hE : E = 0
      · subst hE
        go_enter Try.func5, Try.ntmps5
        go_wp2
        generalize ((w.alloc (.cells #[.int .i64 X, .int .i64 0, .int .i64 0] 30)).alloc (.cells #[.int .i64 0, .int .i64 0, .int .i64 0, .int .i64 0, .int .i64 0, .int .i64 0] 27)) = W at *
        have kP0 : (W).cell? ⟨w.heap.size, 0, none⟩ = some (.int .i64 X) := kP.cell 0; have kP1 : (W).cell? ⟨w.heap.size, 1, none⟩ = some (.int .i64 0) := kP.cell 1; have kP2 : (W).cell? ⟨w.heap.size, 2, none⟩ = some (.int .i64 0) := kP.cell 2; have kPl : w.heap.size < (W).heap.size := kP.lt
        (refine wp_region_clq (by kernel_rfl) (by kernel_rfl) ?_; (repeat (go_big_quiet_step ((first | (go_at_call 27; exact Calls.quiet_cls Closed.true _ (HG.out _)) | (go_at_call 29; exact Calls.quiet_cls Closed.true _ (HC.out _)) | (go_at_call 28; exact Calls.quiet_cls Closed.true _ (HI.out _)))))); refine wpQuiet_nil ?_; intro w1 hb1; obtain ⟨hc1, hf1⟩ := bcell hb1; have hz1 := hb1.size; (try simp only [World.size_alloc] at hz1))
        have hb9 := hb1
        clear hb1 hc1 hf1 kP0 kP1 kP2 kPl
        replace kP := kP.next hb9
        replace kT := kT.next hb9
        replace hB := below_step hb9 hs hB
        replace hs := hB.size
        clear hb9
        have kT0 : (w1).cell? ⟨w.heap.size + 1, 0, none⟩ = some (.int .i64 0) := kT.cell 0; have kT1 : (w1).cell? ⟨w.heap.size + 1, 1, none⟩ = some (.int .i64 0) := kT.cell 1; have kT2 : (w1).cell? ⟨w.heap.size + 1, 2, none⟩ = some (.int .i64 0) := kT.cell 2; have kT3 : (w1).cell? ⟨w.heap.size + 1, 3, none⟩ = some (.int .i64 0) := kT.cell 3; have kT4 : (w1).cell? ⟨w.heap.size + 1, 4, none⟩ = some (.int .i64 0) := kT.cell 4; have kT5 : (w1).cell? ⟨w.heap.size + 1, 5, none⟩ = some (.int .i64 0) := kT.cell 5; have kTf0 : (w1).frozen? ⟨w.heap.size + 1, 0, none⟩ = false := kT.frozen 0; have kTf1 : (w1).frozen? ⟨w.heap.size + 1, 1, none⟩ = false := kT.frozen 1; have kTf2 : (w1).frozen? ⟨w.heap.size + 1, 2, none⟩ = false := kT.frozen 2; have kTf3 : (w1).frozen? ⟨w.heap.size + 1, 3, none⟩ = false := kT.frozen 3; have kTf4 : (w1).frozen? ⟨w.heap.size + 1, 4, none⟩ = false := kT.frozen 4; have kTf5 : (w1).frozen? ⟨w.heap.size + 1, 5, none⟩ = false := kT.frozen 5; have kTl : w.heap.size + 1 < (w1).heap.size := kT.lt
        go_wp2
        have R := ((((((kT.set 0 (.int .i64 0)).set 1 (.int .i64 0)).set 2 (.int .i64 0)).set 3 (.int .i64 0)).set 4 (.int .i64 0)).set 5 (.int .i64 0))
        have hR : Below w.heap.size w ((((((w1.setCell ⟨w.heap.size + 1, 0, none⟩ (.int .i64 0)).setCell ⟨w.heap.size + 1, 1, none⟩ (.int .i64 0)).setCell ⟨w.heap.size + 1, 2, none⟩ (.int .i64 0)).setCell ⟨w.heap.size + 1, 3, none⟩ (.int .i64 0)).setCell ⟨w.heap.size + 1, 4, none⟩ (.int .i64 0)).setCell ⟨w.heap.size + 1, 5, none⟩ (.int .i64 0)) := by (repeat' (first | (with_reducible exact Below.refl _ _) | (with_reducible refine below_step (by assumption) ?_ ?_) | (with_reducible refine Below.alloc ?_ ?_ _) | (with_reducible refine Below.setCell ?_ ?_ _) | (with_reducible refine below_drewN ?_ _) | (with_reducible refine Below.drew ?_) | omega | (simp; omega) | (simp; done)))
        simp only [List.setIfInBounds_toArray, List.set_cons_zero, List.set_cons_succ] at R
        clear kT kT0 kT1 kT2 kT3 kT4 kT5 kTf0 kTf1 kTf2 kTf3 kTf4 kTf5 kTl
        generalize ((((((w1.setCell ⟨w.heap.size + 1, 0, none⟩ (.int .i64 0)).setCell ⟨w.heap.size + 1, 1, none⟩ (.int .i64 0)).setCell ⟨w.heap.size + 1, 2, none⟩ (.int .i64 0)).setCell ⟨w.heap.size + 1, 3, none⟩ (.int .i64 0)).setCell ⟨w.heap.size + 1, 4, none⟩ (.int .i64 0)).setCell ⟨w.heap.size + 1, 5, none⟩ (.int .i64 0)) = W9 at R hR ⊢
        have R0 : (W9).cell? ⟨w.heap.size + 1, 0, none⟩ = some (.int .i64 0) := R.cell 0; have R1 : (W9).cell? ⟨w.heap.size + 1, 1, none⟩ = some (.int .i64 0) := R.cell 1; have R2 : (W9).cell? ⟨w.heap.size + 1, 2, none⟩ = some (.int .i64 0) := R.cell 2; have R3 : (W9).cell? ⟨w.heap.size + 1, 3, none⟩ = some (.int .i64 0) := R.cell 3; have R4 : (W9).cell? ⟨w.heap.size + 1, 4, none⟩ = some (.int .i64 0) := R.cell 4; have R5 : (W9).cell? ⟨w.heap.size + 1, 5, none⟩ = some (.int .i64 0) := R.cell 5; have Rl : w.heap.size + 1 < (W9).heap.size := R.lt
        refine bodyPost_ret (v := .tuple #[.agg #[.int .i64 0, .int .i64 0, .int .i64 0, .int .i64 0, .int .i64 0, .int .i64 0], .bool false]) (by simp [results, Try.results5, go_sem, R0, R1, R2, R3, R4, R5]) rfl ?_
        exact tofP_no rfl hR
      · have hE' : (E == 0) = false := by simpa using hE
        go_enter Try.func5, Try.ntmps5
        go_wp2
        generalize ((w.alloc (.cells #[.int .i64 X, .int .i64 0, .int .i64 E] 30)).alloc (.cells #[.int .i64 0, .int .i64 0, .int .i64 0, .int .i64 0, .int .i64 0, .int .i64 0] 27)) = W at *
        have kP0 : (W).cell? ⟨w.heap.size, 0, none⟩ = some (.int .i64 X) := kP.cell 0; have kP1 : (W).cell? ⟨w.heap.size, 1, none⟩ = some (.int .i64 0) := kP.cell 1; have kP2 : (W).cell? ⟨w.heap.size, 2, none⟩ = some (.int .i64 E) := kP.cell 2; have kPl : w.heap.size < (W).heap.size := kP.lt
        (refine wp_region_clq (by kernel_rfl) (by kernel_rfl) ?_; (repeat (go_big_quiet_step ((first | (go_at_call 27; exact Calls.quiet_cls Closed.true _ (HG.out _)) | (go_at_call 29; exact Calls.quiet_cls Closed.true _ (HC.out _)) | (go_at_call 28; exact Calls.quiet_cls Closed.true _ (HI.out _)))))); refine wpQuiet_nil ?_; intro w1 hb1; obtain ⟨hc1, hf1⟩ := bcell hb1; have hz1 := hb1.size; (try simp only [World.size_alloc] at hz1))
        have hb9 := hb1
        clear hb1 hc1 hf1 kP0 kP1 kP2 kPl
        replace kP := kP.next hb9
        replace kT := kT.next hb9
        replace hB := below_step hb9 hs hB
        replace hs := hB.size
        clear hb9
        have kT0 : (w1).cell? ⟨w.heap.size + 1, 0, none⟩ = some (.int .i64 0) := kT.cell 0; have kT1 : (w1).cell? ⟨w.heap.size + 1, 1, none⟩ = some (.int .i64 0) := kT.cell 1; have kT2 : (w1).cell? ⟨w.heap.size + 1, 2, none⟩ = some (.int .i64 0) := kT.cell 2; have kT3 : (w1).cell? ⟨w.heap.size + 1, 3, none⟩ = some (.int .i64 0) := kT.cell 3; have kT4 : (w1).cell? ⟨w.heap.size + 1, 4, none⟩ = some (.int .i64 0) := kT.cell 4; have kT5 : (w1).cell? ⟨w.heap.size + 1, 5, none⟩ = some (.int .i64 0) := kT.cell 5; have kTf0 : (w1).frozen? ⟨w.heap.size + 1, 0, none⟩ = false := kT.frozen 0; have kTf1 : (w1).frozen? ⟨w.heap.size + 1, 1, none⟩ = false := kT.frozen 1; have kTf2 : (w1).frozen? ⟨w.heap.size + 1, 2, none⟩ = false := kT.frozen 2; have kTf3 : (w1).frozen? ⟨w.heap.size + 1, 3, none⟩ = false := kT.frozen 3; have kTf4 : (w1).frozen? ⟨w.heap.size + 1, 4, none⟩ = false := kT.frozen 4; have kTf5 : (w1).frozen? ⟨w.heap.size + 1, 5, none⟩ = false := kT.frozen 5; have kTl : w.heap.size + 1 < (w1).heap.size := kT.lt
        go_wp2
        have R := ((((((kT.set 0 (.int .i64 0)).set 1 (.int .i64 0)).set 2 (.int .i64 0)).set 3 (.int .i64 0)).set 4 (.int .i64 0)).set 5 (.int .i64 0))
        have hR : Below w.heap.size w ((((((w1.setCell ⟨w.heap.size + 1, 0, none⟩ (.int .i64 0)).setCell ⟨w.heap.size + 1, 1, none⟩ (.int .i64 0)).setCell ⟨w.heap.size + 1, 2, none⟩ (.int .i64 0)).setCell ⟨w.heap.size + 1, 3, none⟩ (.int .i64 0)).setCell ⟨w.heap.size + 1, 4, none⟩ (.int .i64 0)).setCell ⟨w.heap.size + 1, 5, none⟩ (.int .i64 0)) := by (repeat' (first | (with_reducible exact Below.refl _ _) | (with_reducible refine below_step (by assumption) ?_ ?_) | (with_reducible refine Below.alloc ?_ ?_ _) | (with_reducible refine Below.setCell ?_ ?_ _) | (with_reducible refine below_drewN ?_ _) | (with_reducible refine Below.drew ?_) | omega | (simp; omega) | (simp; done)))
        simp only [List.setIfInBounds_toArray, List.set_cons_zero, List.set_cons_succ] at R
        clear kT kT0 kT1 kT2 kT3 kT4 kT5 kTf0 kTf1 kTf2 kTf3 kTf4 kTf5 kTl
        generalize ((((((w1.setCell ⟨w.heap.size + 1, 0, none⟩ (.int .i64 0)).setCell ⟨w.heap.size + 1, 1, none⟩ (.int .i64 0)).setCell ⟨w.heap.size + 1, 2, none⟩ (.int .i64 0)).setCell ⟨w.heap.size + 1, 3, none⟩ (.int .i64 0)).setCell ⟨w.heap.size + 1, 4, none⟩ (.int .i64 0)).setCell ⟨w.heap.size + 1, 5, none⟩ (.int .i64 0)) = W9 at R hR ⊢
        have R0 : (W9).cell? ⟨w.heap.size + 1, 0, none⟩ = some (.int .i64 0) := R.cell 0; have R1 : (W9).cell? ⟨w.heap.size + 1, 1, none⟩ = some (.int .i64 0) := R.cell 1; have R2 : (W9).cell? ⟨w.heap.size + 1, 2, none⟩ = some (.int .i64 0) := R.cell 2; have R3 : (W9).cell? ⟨w.heap.size + 1, 3, none⟩ = some (.int .i64 0) := R.cell 3; have R4 : (W9).cell? ⟨w.heap.size + 1, 4, none⟩ = some (.int .i64 0) := R.cell 4; have R5 : (W9).cell? ⟨w.heap.size + 1, 5, none⟩ = some (.int .i64 0) := R.cell 5; have Rl : w.heap.size + 1 < (W9).heap.size := R.lt
        refine bodyPost_ret (v := .tuple #[.agg #[.int .i64 0, .int .i64 0, .int .i64 0, .int .i64 0, .int .i64 0, .int .i64 0], .bool false]) (by simp [results, Try.results5, go_sem, R0, R1, R2, R3, R4, R5]) rfl ?_
        exact tofP_no rfl hR
set_option maxHeartbeats 2000000 in
set_option maxRecDepth 100000 in
theorem c_sTofMain (n X Y E x1 x2 y1 y2 a b c d e f : Int) (q1 q2 m : Bool) (hn : areaB n = true) (hP : ptF (congA n) 0 X Y E = true) (hY : (Y == 0) = false) (hE : 1 ≤ E ∧ E ≤ 20)
    (H1 : Hid (∀ w : World, Calls Try.prog 30 #[.int .i64 X, .int .i64 (E * E)] w fun r w' => r = .returned (.tuple #[.agg #[.int .i64 x1, .int .i64 x2], .bool q1]) ∧ Below w.heap.size w w'))
    (H2 : Hid (∀ w : World, Calls Try.prog 30 #[.int .i64 Y, .int .i64 (E * E * E)] w fun r w' => r = .returned (.tuple #[.agg #[.int .i64 y1, .int .i64 y2], .bool q2]) ∧ Below w.heap.size w w'))
    (HT : Hid (q1 = true → q2 = true → ∀ w : World, Calls Try.prog 31 #[.int .i64 n, .agg #[.int .i64 x1, .int .i64 x2], .agg #[.int .i64 y1, .int .i64 y2]] w (tofP w a b c d e f m)))
    (w : World) :
    Calls Try.prog 5 #[.int .i64 n, .agg #[.int .i64 X, .int .i64 Y, .int .i64 E]] w (tofP w a b c d e f (q1 && q2 && m)) := by
  have HG : Hid (∀ w, _) := fun w => c_cnGood n w
  rw [hn] at HG
  have hn' := inB_true (by unfold areaB at hn; simp only [Bool.and_eq_true] at hn; exact hn.1 : inB n 1 31 = true)
  have hq := congA_bd hn'.1 hn'.2
  have HC : Hid (∀ w, _) := fun w => c_cnCurve n hn'.1 hn'.2 w
  have HI : Hid (∀ w, _) := fun w => c_ptOn (congA n) 0 X Y E (by unfold congA; omega) (by omega) w
  rw [hP] at HI
  have hE0 : (E == 0) = false := by simp; omega
  have hEE : 1 ≤ E * E ∧ E * E ≤ 400 := ⟨by have := Int.mul_le_mul hE.1 hE.1 (by omega) (by omega); omega, by have := Int.mul_le_mul hE.2 hE.2 (by omega) (by omega); omega⟩
  have hE3 : 1 ≤ E * E * E ∧ E * E * E ≤ 8000 := ⟨by have := Int.mul_le_mul hEE.1 hE.1 (by omega) (by omega); omega, by have := Int.mul_le_mul hEE.2 hE.2 (by omega) (by omega); omega⟩
  have hwE : IntKind.i64.wrap (E * E) = E * E := IntWalk.i64_in _ (by omega)
  have hwF : IntKind.i64.wrap (E * E * E) = E * E * E := IntWalk.i64_in _ (by omega)
  clear hn hP hq hn' hEE hE3 hE
  generalize congA n = A at *
  have kP := (Blk.new w #[.int .i64 X, .int .i64 Y, .int .i64 E] 30).alloc (.cells #[.int .i64 0, .int .i64 0, .int .i64 0, .int .i64 0, .int .i64 0, .int .i64 0] 27)
  have kT := Blk.new (w.alloc (.cells #[.int .i64 X, .int .i64 Y, .int .i64 E] 30)) #[.int .i64 0, .int .i64 0, .int .i64 0, .int .i64 0, .int .i64 0, .int .i64 0] 27
  simp only [World.size_alloc] at kT
  have hB : Below w.heap.size w ((w.alloc (.cells #[.int .i64 X, .int .i64 Y, .int .i64 E] 30)).alloc (.cells #[.int .i64 0, .int .i64 0, .int .i64 0, .int .i64 0, .int .i64 0, .int .i64 0] 27)) := by (repeat' (first | (with_reducible exact Below.refl _ _) | (with_reducible refine below_step (by assumption) ?_ ?_) | (with_reducible refine Below.alloc ?_ ?_ _) | (with_reducible refine Below.setCell ?_ ?_ _) | (with_reducible refine below_drewN ?_ _) | (with_reducible refine Below.drew ?_) | omega | (simp; omega) | (simp; done)))
  have hs := hB.size
  go_enter Try.func5, Try.ntmps5
  go_wp2
  generalize ((w.alloc (.cells #[.int .i64 X, .int .i64 Y, .int .i64 E] 30)).alloc (.cells #[.int .i64 0, .int .i64 0, .int .i64 0, .int .i64 0, .int .i64 0, .int .i64 0] 27)) = W at *
  have kP0 : (W).cell? ⟨w.heap.size, 0, none⟩ = some (.int .i64 X) := kP.cell 0; have kP1 : (W).cell? ⟨w.heap.size, 1, none⟩ = some (.int .i64 Y) := kP.cell 1; have kP2 : (W).cell? ⟨w.heap.size, 2, none⟩ = some (.int .i64 E) := kP.cell 2; have kPl : w.heap.size < (W).heap.size := kP.lt
  (refine wp_region_clq (by kernel_rfl) (by kernel_rfl) ?_; (repeat (go_big_quiet_step ((first | (go_at_call 27; exact Calls.quiet_cls Closed.true _ (HG.out _)) | (go_at_call 29; exact Calls.quiet_cls Closed.true _ (HC.out _)) | (go_at_call 28; exact Calls.quiet_cls Closed.true _ (HI.out _)))))); refine wpQuiet_nil ?_; intro w1 hb1; obtain ⟨hc1, hf1⟩ := bcell hb1; have hz1 := hb1.size; (try simp only [World.size_alloc] at hz1))
  have hb9 := hb1
  clear hb1 hc1 hf1 kP0 kP1 kP2 kPl
  replace kP := kP.next hb9
  replace kT := kT.next hb9
  replace hB := below_step hb9 hs hB
  replace hs := hB.size
  clear hb9
  clear HG HC HI hE0 hY
  have kP0 : (w1).cell? ⟨w.heap.size, 0, none⟩ = some (.int .i64 X) := kP.cell 0; have kP1 : (w1).cell? ⟨w.heap.size, 1, none⟩ = some (.int .i64 Y) := kP.cell 1; have kP2 : (w1).cell? ⟨w.heap.size, 2, none⟩ = some (.int .i64 E) := kP.cell 2; have kPl : w.heap.size < (w1).heap.size := kP.lt
  go_wp2_with fail
  refine (H1.out _).mono ?_
  rintro e u2 ⟨rfl, hb⟩
  clear kP0 kP1 kP2 kPl
  replace kP := kP.next hb
  replace kT := kT.next hb
  replace hB := below_step hb hs hB
  replace hs := hB.size
  clear hb
  replace kP := kP.alloc (.cells #[.int .i64 x1, .int .i64 x2] 25)
  replace kT := kT.alloc (.cells #[.int .i64 x1, .int .i64 x2] 25)
  have k6 := Blk.new u2 #[.int .i64 x1, .int .i64 x2] 25
  replace hB := hB.alloc hs (.cells #[.int .i64 x1, .int .i64 x2] 25)
  replace hs := hB.size
  go_upto_region 4 with (fail)
  generalize u2.alloc _ = W2 at *
  generalize u2.heap.size = r6 at *
  have kP0 : (W2).cell? ⟨w.heap.size, 0, none⟩ = some (.int .i64 X) := kP.cell 0; have kP1 : (W2).cell? ⟨w.heap.size, 1, none⟩ = some (.int .i64 Y) := kP.cell 1; have kP2 : (W2).cell? ⟨w.heap.size, 2, none⟩ = some (.int .i64 E) := kP.cell 2; have kPl : w.heap.size < (W2).heap.size := kP.lt
  go_wp2_with fail
  refine (H2.out _).mono ?_
  rintro e u3 ⟨rfl, hb⟩
  clear kP0 kP1 kP2 kPl
  replace kP := kP.next hb
  replace kT := kT.next hb
  replace k6 := k6.next hb
  replace hB := below_step hb hs hB
  replace hs := hB.size
  clear hb
  replace kP := kP.alloc (.cells #[.int .i64 y1, .int .i64 y2] 25)
  replace kT := kT.alloc (.cells #[.int .i64 y1, .int .i64 y2] 25)
  replace k6 := k6.alloc (.cells #[.int .i64 y1, .int .i64 y2] 25)
  have k8 := Blk.new u3 #[.int .i64 y1, .int .i64 y2] 25
  replace hB := hB.alloc hs (.cells #[.int .i64 y1, .int .i64 y2] 25)
  replace hs := hB.size
  go_upto_region 5 with (fail)
  generalize u3.alloc _ = W3 at *
  generalize u3.heap.size = r8 at *
  clear H1 H2
  cases q1
  · skip
    have kT0 : (W3).cell? ⟨w.heap.size + 1, 0, none⟩ = some (.int .i64 0) := kT.cell 0; have kT1 : (W3).cell? ⟨w.heap.size + 1, 1, none⟩ = some (.int .i64 0) := kT.cell 1; have kT2 : (W3).cell? ⟨w.heap.size + 1, 2, none⟩ = some (.int .i64 0) := kT.cell 2; have kT3 : (W3).cell? ⟨w.heap.size + 1, 3, none⟩ = some (.int .i64 0) := kT.cell 3; have kT4 : (W3).cell? ⟨w.heap.size + 1, 4, none⟩ = some (.int .i64 0) := kT.cell 4; have kT5 : (W3).cell? ⟨w.heap.size + 1, 5, none⟩ = some (.int .i64 0) := kT.cell 5; have kTf0 : (W3).frozen? ⟨w.heap.size + 1, 0, none⟩ = false := kT.frozen 0; have kTf1 : (W3).frozen? ⟨w.heap.size + 1, 1, none⟩ = false := kT.frozen 1; have kTf2 : (W3).frozen? ⟨w.heap.size + 1, 2, none⟩ = false := kT.frozen 2; have kTf3 : (W3).frozen? ⟨w.heap.size + 1, 3, none⟩ = false := kT.frozen 3; have kTf4 : (W3).frozen? ⟨w.heap.size + 1, 4, none⟩ = false := kT.frozen 4; have kTf5 : (W3).frozen? ⟨w.heap.size + 1, 5, none⟩ = false := kT.frozen 5; have kTl : w.heap.size + 1 < (W3).heap.size := kT.lt
    go_wp2
    have R := ((((((kT.set 0 (.int .i64 0)).set 1 (.int .i64 0)).set 2 (.int .i64 0)).set 3 (.int .i64 0)).set 4 (.int .i64 0)).set 5 (.int .i64 0))
    have hR : Below w.heap.size w ((((((W3.setCell ⟨w.heap.size + 1, 0, none⟩ (.int .i64 0)).setCell ⟨w.heap.size + 1, 1, none⟩ (.int .i64 0)).setCell ⟨w.heap.size + 1, 2, none⟩ (.int .i64 0)).setCell ⟨w.heap.size + 1, 3, none⟩ (.int .i64 0)).setCell ⟨w.heap.size + 1, 4, none⟩ (.int .i64 0)).setCell ⟨w.heap.size + 1, 5, none⟩ (.int .i64 0)) := by (repeat' (first | (with_reducible exact Below.refl _ _) | (with_reducible refine below_step (by assumption) ?_ ?_) | (with_reducible refine Below.alloc ?_ ?_ _) | (with_reducible refine Below.setCell ?_ ?_ _) | (with_reducible refine below_drewN ?_ _) | (with_reducible refine Below.drew ?_) | omega | (simp; omega) | (simp; done)))
    simp only [List.setIfInBounds_toArray, List.set_cons_zero, List.set_cons_succ] at R
    clear kT kT0 kT1 kT2 kT3 kT4 kT5 kTf0 kTf1 kTf2 kTf3 kTf4 kTf5 kTl
    generalize ((((((W3.setCell ⟨w.heap.size + 1, 0, none⟩ (.int .i64 0)).setCell ⟨w.heap.size + 1, 1, none⟩ (.int .i64 0)).setCell ⟨w.heap.size + 1, 2, none⟩ (.int .i64 0)).setCell ⟨w.heap.size + 1, 3, none⟩ (.int .i64 0)).setCell ⟨w.heap.size + 1, 4, none⟩ (.int .i64 0)).setCell ⟨w.heap.size + 1, 5, none⟩ (.int .i64 0)) = W9 at R hR ⊢
    have R0 : (W9).cell? ⟨w.heap.size + 1, 0, none⟩ = some (.int .i64 0) := R.cell 0; have R1 : (W9).cell? ⟨w.heap.size + 1, 1, none⟩ = some (.int .i64 0) := R.cell 1; have R2 : (W9).cell? ⟨w.heap.size + 1, 2, none⟩ = some (.int .i64 0) := R.cell 2; have R3 : (W9).cell? ⟨w.heap.size + 1, 3, none⟩ = some (.int .i64 0) := R.cell 3; have R4 : (W9).cell? ⟨w.heap.size + 1, 4, none⟩ = some (.int .i64 0) := R.cell 4; have R5 : (W9).cell? ⟨w.heap.size + 1, 5, none⟩ = some (.int .i64 0) := R.cell 5; have Rl : w.heap.size + 1 < (W9).heap.size := R.lt
    refine bodyPost_ret (v := .tuple #[.agg #[.int .i64 0, .int .i64 0, .int .i64 0, .int .i64 0, .int .i64 0, .int .i64 0], .bool false]) (by simp [results, Try.results5, go_sem, R0, R1, R2, R3, R4, R5]) rfl ?_
    exact tofP_no rfl hR
  cases q2
  · skip
    have kT0 : (W3).cell? ⟨w.heap.size + 1, 0, none⟩ = some (.int .i64 0) := kT.cell 0; have kT1 : (W3).cell? ⟨w.heap.size + 1, 1, none⟩ = some (.int .i64 0) := kT.cell 1; have kT2 : (W3).cell? ⟨w.heap.size + 1, 2, none⟩ = some (.int .i64 0) := kT.cell 2; have kT3 : (W3).cell? ⟨w.heap.size + 1, 3, none⟩ = some (.int .i64 0) := kT.cell 3; have kT4 : (W3).cell? ⟨w.heap.size + 1, 4, none⟩ = some (.int .i64 0) := kT.cell 4; have kT5 : (W3).cell? ⟨w.heap.size + 1, 5, none⟩ = some (.int .i64 0) := kT.cell 5; have kTf0 : (W3).frozen? ⟨w.heap.size + 1, 0, none⟩ = false := kT.frozen 0; have kTf1 : (W3).frozen? ⟨w.heap.size + 1, 1, none⟩ = false := kT.frozen 1; have kTf2 : (W3).frozen? ⟨w.heap.size + 1, 2, none⟩ = false := kT.frozen 2; have kTf3 : (W3).frozen? ⟨w.heap.size + 1, 3, none⟩ = false := kT.frozen 3; have kTf4 : (W3).frozen? ⟨w.heap.size + 1, 4, none⟩ = false := kT.frozen 4; have kTf5 : (W3).frozen? ⟨w.heap.size + 1, 5, none⟩ = false := kT.frozen 5; have kTl : w.heap.size + 1 < (W3).heap.size := kT.lt
    go_wp2
    have R := ((((((kT.set 0 (.int .i64 0)).set 1 (.int .i64 0)).set 2 (.int .i64 0)).set 3 (.int .i64 0)).set 4 (.int .i64 0)).set 5 (.int .i64 0))
    have hR : Below w.heap.size w ((((((W3.setCell ⟨w.heap.size + 1, 0, none⟩ (.int .i64 0)).setCell ⟨w.heap.size + 1, 1, none⟩ (.int .i64 0)).setCell ⟨w.heap.size + 1, 2, none⟩ (.int .i64 0)).setCell ⟨w.heap.size + 1, 3, none⟩ (.int .i64 0)).setCell ⟨w.heap.size + 1, 4, none⟩ (.int .i64 0)).setCell ⟨w.heap.size + 1, 5, none⟩ (.int .i64 0)) := by (repeat' (first | (with_reducible exact Below.refl _ _) | (with_reducible refine below_step (by assumption) ?_ ?_) | (with_reducible refine Below.alloc ?_ ?_ _) | (with_reducible refine Below.setCell ?_ ?_ _) | (with_reducible refine below_drewN ?_ _) | (with_reducible refine Below.drew ?_) | omega | (simp; omega) | (simp; done)))
    simp only [List.setIfInBounds_toArray, List.set_cons_zero, List.set_cons_succ] at R
    clear kT kT0 kT1 kT2 kT3 kT4 kT5 kTf0 kTf1 kTf2 kTf3 kTf4 kTf5 kTl
    generalize ((((((W3.setCell ⟨w.heap.size + 1, 0, none⟩ (.int .i64 0)).setCell ⟨w.heap.size + 1, 1, none⟩ (.int .i64 0)).setCell ⟨w.heap.size + 1, 2, none⟩ (.int .i64 0)).setCell ⟨w.heap.size + 1, 3, none⟩ (.int .i64 0)).setCell ⟨w.heap.size + 1, 4, none⟩ (.int .i64 0)).setCell ⟨w.heap.size + 1, 5, none⟩ (.int .i64 0)) = W9 at R hR ⊢
    have R0 : (W9).cell? ⟨w.heap.size + 1, 0, none⟩ = some (.int .i64 0) := R.cell 0; have R1 : (W9).cell? ⟨w.heap.size + 1, 1, none⟩ = some (.int .i64 0) := R.cell 1; have R2 : (W9).cell? ⟨w.heap.size + 1, 2, none⟩ = some (.int .i64 0) := R.cell 2; have R3 : (W9).cell? ⟨w.heap.size + 1, 3, none⟩ = some (.int .i64 0) := R.cell 3; have R4 : (W9).cell? ⟨w.heap.size + 1, 4, none⟩ = some (.int .i64 0) := R.cell 4; have R5 : (W9).cell? ⟨w.heap.size + 1, 5, none⟩ = some (.int .i64 0) := R.cell 5; have Rl : w.heap.size + 1 < (W9).heap.size := R.lt
    refine bodyPost_ret (v := .tuple #[.agg #[.int .i64 0, .int .i64 0, .int .i64 0, .int .i64 0, .int .i64 0, .int .i64 0], .bool false]) (by simp [results, Try.results5, go_sem, R0, R1, R2, R3, R4, R5]) rfl ?_
    exact tofP_no rfl hR
  have IT := HT.out rfl rfl
  obtain ⟨p1, p2, p3, p4, p5, p6, hf⟩ := tofP_form a b c d e f m
  simp only [hf] at IT
  have HF := Lib.hid hf
  have ID := Lib.hid IT
  clear hf IT HT
  have k60 : (W3).cell? ⟨r6, 0, none⟩ = some (.int .i64 x1) := k6.cell 0; have k61 : (W3).cell? ⟨r6, 1, none⟩ = some (.int .i64 x2) := k6.cell 1; have k6l : r6 < (W3).heap.size := k6.lt
  have k80 : (W3).cell? ⟨r8, 0, none⟩ = some (.int .i64 y1) := k8.cell 0; have k81 : (W3).cell? ⟨r8, 1, none⟩ = some (.int .i64 y2) := k8.cell 1; have k8l : r8 < (W3).heap.size := k8.lt
  go_wp2_with fail
  refine (ID.out _).mono ?_
  rintro e u ⟨rfl, hb⟩
  replace kP := kP.next hb
  replace kT := kT.next hb
  replace k6 := k6.next hb
  replace k8 := k8.next hb
  replace hB := below_step hb hs hB
  replace hs := hB.size
  clear hb k60 k61 k6l k80 k81 k8l
  have kT0 : (u).cell? ⟨w.heap.size + 1, 0, none⟩ = some (.int .i64 0) := kT.cell 0; have kT1 : (u).cell? ⟨w.heap.size + 1, 1, none⟩ = some (.int .i64 0) := kT.cell 1; have kT2 : (u).cell? ⟨w.heap.size + 1, 2, none⟩ = some (.int .i64 0) := kT.cell 2; have kT3 : (u).cell? ⟨w.heap.size + 1, 3, none⟩ = some (.int .i64 0) := kT.cell 3; have kT4 : (u).cell? ⟨w.heap.size + 1, 4, none⟩ = some (.int .i64 0) := kT.cell 4; have kT5 : (u).cell? ⟨w.heap.size + 1, 5, none⟩ = some (.int .i64 0) := kT.cell 5; have kTf0 : (u).frozen? ⟨w.heap.size + 1, 0, none⟩ = false := kT.frozen 0; have kTf1 : (u).frozen? ⟨w.heap.size + 1, 1, none⟩ = false := kT.frozen 1; have kTf2 : (u).frozen? ⟨w.heap.size + 1, 2, none⟩ = false := kT.frozen 2; have kTf3 : (u).frozen? ⟨w.heap.size + 1, 3, none⟩ = false := kT.frozen 3; have kTf4 : (u).frozen? ⟨w.heap.size + 1, 4, none⟩ = false := kT.frozen 4; have kTf5 : (u).frozen? ⟨w.heap.size + 1, 5, none⟩ = false := kT.frozen 5; have kTl : w.heap.size + 1 < (u).heap.size := kT.lt
  go_wp2
  have R := ((((((kT.set 0 (.int .i64 p1)).set 1 (.int .i64 p2)).set 2 (.int .i64 p3)).set 3 (.int .i64 p4)).set 4 (.int .i64 p5)).set 5 (.int .i64 p6))
  have hR : Below w.heap.size w ((((((u.setCell ⟨w.heap.size + 1, 0, none⟩ (.int .i64 p1)).setCell ⟨w.heap.size + 1, 1, none⟩ (.int .i64 p2)).setCell ⟨w.heap.size + 1, 2, none⟩ (.int .i64 p3)).setCell ⟨w.heap.size + 1, 3, none⟩ (.int .i64 p4)).setCell ⟨w.heap.size + 1, 4, none⟩ (.int .i64 p5)).setCell ⟨w.heap.size + 1, 5, none⟩ (.int .i64 p6)) := by (repeat' (first | (with_reducible exact Below.refl _ _) | (with_reducible refine below_step (by assumption) ?_ ?_) | (with_reducible refine Below.alloc ?_ ?_ _) | (with_reducible refine Below.setCell ?_ ?_ _) | (with_reducible refine below_drewN ?_ _) | (with_reducible refine Below.drew ?_) | omega | (simp; omega) | (simp; done)))
  simp only [List.setIfInBounds_toArray, List.set_cons_zero, List.set_cons_succ] at R
  clear kT kT0 kT1 kT2 kT3 kT4 kT5 kTf0 kTf1 kTf2 kTf3 kTf4 kTf5 kTl
  generalize ((((((u.setCell ⟨w.heap.size + 1, 0, none⟩ (.int .i64 p1)).setCell ⟨w.heap.size + 1, 1, none⟩ (.int .i64 p2)).setCell ⟨w.heap.size + 1, 2, none⟩ (.int .i64 p3)).setCell ⟨w.heap.size + 1, 3, none⟩ (.int .i64 p4)).setCell ⟨w.heap.size + 1, 4, none⟩ (.int .i64 p5)).setCell ⟨w.heap.size + 1, 5, none⟩ (.int .i64 p6)) = W9 at R hR ⊢
  have R0 : (W9).cell? ⟨w.heap.size + 1, 0, none⟩ = some (.int .i64 p1) := R.cell 0; have R1 : (W9).cell? ⟨w.heap.size + 1, 1, none⟩ = some (.int .i64 p2) := R.cell 1; have R2 : (W9).cell? ⟨w.heap.size + 1, 2, none⟩ = some (.int .i64 p3) := R.cell 2; have R3 : (W9).cell? ⟨w.heap.size + 1, 3, none⟩ = some (.int .i64 p4) := R.cell 3; have R4 : (W9).cell? ⟨w.heap.size + 1, 4, none⟩ = some (.int .i64 p5) := R.cell 4; have R5 : (W9).cell? ⟨w.heap.size + 1, 5, none⟩ = some (.int .i64 p6) := R.cell 5; have Rl : w.heap.size + 1 < (W9).heap.size := R.lt
  refine bodyPost_ret (v := .tuple #[.agg #[.int .i64 p1, .int .i64 p2, .int .i64 p3, .int .i64 p4, .int .i64 p5, .int .i64 p6], .bool m]) (by simp [results, Try.results5, go_sem, R0, R1, R2, R3, R4, R5]) rfl ?_
  exact tofP_of HF.out ⟨rfl, hR⟩
end Go.Proofs.Ytcnfjapoopdiaaa
