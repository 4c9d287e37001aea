/- Walks: the law of TriangleOf. -/
import Derived.Test.YtcnfjapoopdiaaaTofB
import Derived.Test.YtcnfjapoopdiaaaScaT
namespace Go.Proofs.Ytcnfjapoopdiaaa
open Go.RowKit

set_option maxHeartbeats 2000000 in
set_option maxRecDepth 100000 in
theorem c_iTofNo (n X Y E a b c d e f : Int) (h : gtB n X Y E = false) (w : World) :
    Calls Try.prog 7 #[.int .i64 n, .agg #[.int .i64 X, .int .i64 Y, .int .i64 E]] w (tofP w a b c d e f false) := by
  have HG : Hid (∀ w, _) := fun w => c_isArea n w
  have kP := (Blk.new w #[.int .i64 X, .int .i64 Y, .int .i64 E] 30).alloc (.cells #[.int .i64 0, .int .i64 0, .int .i64 0, .int .i64 0, .int .i64 0, .int .i64 0] 27)
  have kT := Blk.new (w.alloc (.cells #[.int .i64 X, .int .i64 Y, .int .i64 E] 30)) #[.int .i64 0, .int .i64 0, .int .i64 0, .int .i64 0, .int .i64 0, .int .i64 0] 27
  simp only [World.size_alloc] at kT
  have hB : Below w.heap.size w ((w.alloc (.cells #[.int .i64 X, .int .i64 Y, .int .i64 E] 30)).alloc (.cells #[.int .i64 0, .int .i64 0, .int .i64 0, .int .i64 0, .int .i64 0, .int .i64 0] 27)) := by (repeat' (first | (with_reducible exact Below.refl _ _) | (with_reducible refine below_step (by assumption) ?_ ?_) | (with_reducible refine Below.alloc ?_ ?_ _) | (with_reducible refine Below.setCell ?_ ?_ _) | (with_reducible refine below_drewN ?_ _) | (with_reducible refine Below.drew ?_) | omega | (simp; omega) | (simp; done)))
  have hs := hB.size
  cases ha : areaB n
  · rw [ha] at HG
    clear h ha
    go_enter Try.func7, Try.ntmps7
    go_wp2_with fail
    generalize ((w.alloc (.cells #[.int .i64 X, .int .i64 Y, .int .i64 E] 30)).alloc (.cells #[.int .i64 0, .int .i64 0, .int .i64 0, .int .i64 0, .int .i64 0, .int .i64 0] 27)) = W at *
    refine (HG.out _).mono ?_
    rintro e u1 ⟨rfl, hb1⟩
    replace kP := kP.next hb1
    replace kT := kT.next hb1
    replace hB := below_step hb1 hs hB
    replace hs := hB.size
    have kT0 : (u1).cell? ⟨w.heap.size + 1, 0, none⟩ = some (.int .i64 0) := kT.cell 0; have kT1 : (u1).cell? ⟨w.heap.size + 1, 1, none⟩ = some (.int .i64 0) := kT.cell 1; have kT2 : (u1).cell? ⟨w.heap.size + 1, 2, none⟩ = some (.int .i64 0) := kT.cell 2; have kT3 : (u1).cell? ⟨w.heap.size + 1, 3, none⟩ = some (.int .i64 0) := kT.cell 3; have kT4 : (u1).cell? ⟨w.heap.size + 1, 4, none⟩ = some (.int .i64 0) := kT.cell 4; have kT5 : (u1).cell? ⟨w.heap.size + 1, 5, none⟩ = some (.int .i64 0) := kT.cell 5; have kTf0 : (u1).frozen? ⟨w.heap.size + 1, 0, none⟩ = false := kT.frozen 0; have kTf1 : (u1).frozen? ⟨w.heap.size + 1, 1, none⟩ = false := kT.frozen 1; have kTf2 : (u1).frozen? ⟨w.heap.size + 1, 2, none⟩ = false := kT.frozen 2; have kTf3 : (u1).frozen? ⟨w.heap.size + 1, 3, none⟩ = false := kT.frozen 3; have kTf4 : (u1).frozen? ⟨w.heap.size + 1, 4, none⟩ = false := kT.frozen 4; have kTf5 : (u1).frozen? ⟨w.heap.size + 1, 5, none⟩ = false := kT.frozen 5; have kTl : w.heap.size + 1 < (u1).heap.size := kT.lt
    go_wp2
    have R := ((((((kT.set 0 (.int .i64 0)).set 1 (.int .i64 0)).set 2 (.int .i64 0)).set 3 (.int .i64 0)).set 4 (.int .i64 0)).set 5 (.int .i64 0))
    have hR : Below w.heap.size w ((((((u1.setCell ⟨w.heap.size + 1, 0, none⟩ (.int .i64 0)).setCell ⟨w.heap.size + 1, 1, none⟩ (.int .i64 0)).setCell ⟨w.heap.size + 1, 2, none⟩ (.int .i64 0)).setCell ⟨w.heap.size + 1, 3, none⟩ (.int .i64 0)).setCell ⟨w.heap.size + 1, 4, none⟩ (.int .i64 0)).setCell ⟨w.heap.size + 1, 5, none⟩ (.int .i64 0)) := by (repeat' (first | (with_reducible exact Below.refl _ _) | (with_reducible refine below_step (by assumption) ?_ ?_) | (with_reducible refine Below.alloc ?_ ?_ _) | (with_reducible refine Below.setCell ?_ ?_ _) | (with_reducible refine below_drewN ?_ _) | (with_reducible refine Below.drew ?_) | omega | (simp; omega) | (simp; done)))
    simp only [List.setIfInBounds_toArray, List.set_cons_zero, List.set_cons_succ] at R
    clear kT kT0 kT1 kT2 kT3 kT4 kT5 kTf0 kTf1 kTf2 kTf3 kTf4 kTf5 kTl
    generalize ((((((u1.setCell ⟨w.heap.size + 1, 0, none⟩ (.int .i64 0)).setCell ⟨w.heap.size + 1, 1, none⟩ (.int .i64 0)).setCell ⟨w.heap.size + 1, 2, none⟩ (.int .i64 0)).setCell ⟨w.heap.size + 1, 3, none⟩ (.int .i64 0)).setCell ⟨w.heap.size + 1, 4, none⟩ (.int .i64 0)).setCell ⟨w.heap.size + 1, 5, none⟩ (.int .i64 0)) = W9 at R hR ⊢
    have R0 : (W9).cell? ⟨w.heap.size + 1, 0, none⟩ = some (.int .i64 0) := R.cell 0; have R1 : (W9).cell? ⟨w.heap.size + 1, 1, none⟩ = some (.int .i64 0) := R.cell 1; have R2 : (W9).cell? ⟨w.heap.size + 1, 2, none⟩ = some (.int .i64 0) := R.cell 2; have R3 : (W9).cell? ⟨w.heap.size + 1, 3, none⟩ = some (.int .i64 0) := R.cell 3; have R4 : (W9).cell? ⟨w.heap.size + 1, 4, none⟩ = some (.int .i64 0) := R.cell 4; have R5 : (W9).cell? ⟨w.heap.size + 1, 5, none⟩ = some (.int .i64 0) := R.cell 5; have Rl : w.heap.size + 1 < (W9).heap.size := R.lt
    refine bodyPost_ret (v := .tuple #[.agg #[.int .i64 0, .int .i64 0, .int .i64 0, .int .i64 0, .int .i64 0, .int .i64 0], .bool false]) (by simp [results, Try.results7, go_sem, R0, R1, R2, R3, R4, R5]) rfl ?_
    exact tofP_no rfl hR
  · rw [ha] at HG
    have hn' := areaB_b2 ha
    have hnn : 1 ≤ n * n ∧ n * n ≤ 961 := ⟨by have := Int.mul_le_mul hn'.1 hn'.1 (by omega) (by omega); omega, by have := Int.mul_le_mul hn'.2 hn'.2 (by omega) (by omega); omega⟩
    have hneg : -n * n = -(n * n) := Int.neg_mul n n
    have hwn : IntKind.i64.wrap (-n) = -n := IntWalk.i64_in _ (by omega)
    have hwm : IntKind.i64.wrap (-n * n) = -n * n := IntWalk.i64_in _ (by omega)
    have HI : Hid (∀ w, _) := fun w => c_isPoint (-n * n) 0 X Y E (curve_n hn') w
    have hg : (ptF (-n * n) 0 X Y E && !(Y == 0)) = false := by unfold gtB at h; rw [ha, Bool.true_and] at h; exact h
    clear h ha hneg hnn hn'
    cases hp : ptF (-n * n) 0 X Y E
    · rw [hp] at HI
      clear hg hp
      go_enter Try.func7, Try.ntmps7
      go_wp2_with fail
      generalize ((w.alloc (.cells #[.int .i64 X, .int .i64 Y, .int .i64 E] 30)).alloc (.cells #[.int .i64 0, .int .i64 0, .int .i64 0, .int .i64 0, .int .i64 0, .int .i64 0] 27)) = W at *
      refine (HG.out _).mono ?_
      rintro e u1 ⟨rfl, hb1⟩
      replace kP := kP.next hb1
      replace kT := kT.next hb1
      replace hB := below_step hb1 hs hB
      replace hs := hB.size
      have kP0 : (u1).cell? ⟨w.heap.size, 0, none⟩ = some (.int .i64 X) := kP.cell 0; have kP1 : (u1).cell? ⟨w.heap.size, 1, none⟩ = some (.int .i64 Y) := kP.cell 1; have kP2 : (u1).cell? ⟨w.heap.size, 2, none⟩ = some (.int .i64 E) := kP.cell 2; have kPl : w.heap.size < (u1).heap.size := kP.lt
      go_wp2_with fail
      refine (HI.out _).mono ?_
      rintro e u2 ⟨rfl, hb2⟩
      clear kP0 kP1 kP2 kPl
      replace kP := kP.next hb2
      replace kT := kT.next hb2
      replace hB := below_step hb2 hs hB
      replace hs := hB.size
      have kP0 : (u2).cell? ⟨w.heap.size, 0, none⟩ = some (.int .i64 X) := kP.cell 0; have kP1 : (u2).cell? ⟨w.heap.size, 1, none⟩ = some (.int .i64 Y) := kP.cell 1; have kP2 : (u2).cell? ⟨w.heap.size, 2, none⟩ = some (.int .i64 E) := kP.cell 2; have kPl : w.heap.size < (u2).heap.size := kP.lt
      have kT0 : (u2).cell? ⟨w.heap.size + 1, 0, none⟩ = some (.int .i64 0) := kT.cell 0; have kT1 : (u2).cell? ⟨w.heap.size + 1, 1, none⟩ = some (.int .i64 0) := kT.cell 1; have kT2 : (u2).cell? ⟨w.heap.size + 1, 2, none⟩ = some (.int .i64 0) := kT.cell 2; have kT3 : (u2).cell? ⟨w.heap.size + 1, 3, none⟩ = some (.int .i64 0) := kT.cell 3; have kT4 : (u2).cell? ⟨w.heap.size + 1, 4, none⟩ = some (.int .i64 0) := kT.cell 4; have kT5 : (u2).cell? ⟨w.heap.size + 1, 5, none⟩ = some (.int .i64 0) := kT.cell 5; have kTf0 : (u2).frozen? ⟨w.heap.size + 1, 0, none⟩ = false := kT.frozen 0; have kTf1 : (u2).frozen? ⟨w.heap.size + 1, 1, none⟩ = false := kT.frozen 1; have kTf2 : (u2).frozen? ⟨w.heap.size + 1, 2, none⟩ = false := kT.frozen 2; have kTf3 : (u2).frozen? ⟨w.heap.size + 1, 3, none⟩ = false := kT.frozen 3; have kTf4 : (u2).frozen? ⟨w.heap.size + 1, 4, none⟩ = false := kT.frozen 4; have kTf5 : (u2).frozen? ⟨w.heap.size + 1, 5, none⟩ = false := kT.frozen 5; have kTl : w.heap.size + 1 < (u2).heap.size := kT.lt
      go_wp2
      have R := ((((((kT.set 0 (.int .i64 0)).set 1 (.int .i64 0)).set 2 (.int .i64 0)).set 3 (.int .i64 0)).set 4 (.int .i64 0)).set 5 (.int .i64 0))
      have hR : Below w.heap.size w ((((((u2.setCell ⟨w.heap.size + 1, 0, none⟩ (.int .i64 0)).setCell ⟨w.heap.size + 1, 1, none⟩ (.int .i64 0)).setCell ⟨w.heap.size + 1, 2, none⟩ (.int .i64 0)).setCell ⟨w.heap.size + 1, 3, none⟩ (.int .i64 0)).setCell ⟨w.heap.size + 1, 4, none⟩ (.int .i64 0)).setCell ⟨w.heap.size + 1, 5, none⟩ (.int .i64 0)) := by (repeat' (first | (with_reducible exact Below.refl _ _) | (with_reducible refine below_step (by assumption) ?_ ?_) | (with_reducible refine Below.alloc ?_ ?_ _) | (with_reducible refine Below.setCell ?_ ?_ _) | (with_reducible refine below_drewN ?_ _) | (with_reducible refine Below.drew ?_) | omega | (simp; omega) | (simp; done)))
      simp only [List.setIfInBounds_toArray, List.set_cons_zero, List.set_cons_succ] at R
      clear kT kT0 kT1 kT2 kT3 kT4 kT5 kTf0 kTf1 kTf2 kTf3 kTf4 kTf5 kTl
      generalize ((((((u2.setCell ⟨w.heap.size + 1, 0, none⟩ (.int .i64 0)).setCell ⟨w.heap.size + 1, 1, none⟩ (.int .i64 0)).setCell ⟨w.heap.size + 1, 2, none⟩ (.int .i64 0)).setCell ⟨w.heap.size + 1, 3, none⟩ (.int .i64 0)).setCell ⟨w.heap.size + 1, 4, none⟩ (.int .i64 0)).setCell ⟨w.heap.size + 1, 5, none⟩ (.int .i64 0)) = W9 at R hR ⊢
      have R0 : (W9).cell? ⟨w.heap.size + 1, 0, none⟩ = some (.int .i64 0) := R.cell 0; have R1 : (W9).cell? ⟨w.heap.size + 1, 1, none⟩ = some (.int .i64 0) := R.cell 1; have R2 : (W9).cell? ⟨w.heap.size + 1, 2, none⟩ = some (.int .i64 0) := R.cell 2; have R3 : (W9).cell? ⟨w.heap.size + 1, 3, none⟩ = some (.int .i64 0) := R.cell 3; have R4 : (W9).cell? ⟨w.heap.size + 1, 4, none⟩ = some (.int .i64 0) := R.cell 4; have R5 : (W9).cell? ⟨w.heap.size + 1, 5, none⟩ = some (.int .i64 0) := R.cell 5; have Rl : w.heap.size + 1 < (W9).heap.size := R.lt
      refine bodyPost_ret (v := .tuple #[.agg #[.int .i64 0, .int .i64 0, .int .i64 0, .int .i64 0, .int .i64 0, .int .i64 0], .bool false]) (by simp [results, Try.results7, go_sem, R0, R1, R2, R3, R4, R5]) rfl ?_
      exact tofP_no rfl hR
    · rw [hp] at hg HI
      have hY : Y = 0 := by simpa using hg
      subst hY
      clear hg hp
      go_enter Try.func7, Try.ntmps7
      go_wp2_with fail
      generalize ((w.alloc (.cells #[.int .i64 X, .int .i64 0, .int .i64 E] 30)).alloc (.cells #[.int .i64 0, .int .i64 0, .int .i64 0, .int .i64 0, .int .i64 0, .int .i64 0] 27)) = W at *
      refine (HG.out _).mono ?_
      rintro e u1 ⟨rfl, hb1⟩
      replace kP := kP.next hb1
      replace kT := kT.next hb1
      replace hB := below_step hb1 hs hB
      replace hs := hB.size
      have kP0 : (u1).cell? ⟨w.heap.size, 0, none⟩ = some (.int .i64 X) := kP.cell 0; have kP1 : (u1).cell? ⟨w.heap.size, 1, none⟩ = some (.int .i64 0) := kP.cell 1; have kP2 : (u1).cell? ⟨w.heap.size, 2, none⟩ = some (.int .i64 E) := kP.cell 2; have kPl : w.heap.size < (u1).heap.size := kP.lt
      go_wp2_with fail
      refine (HI.out _).mono ?_
      rintro e u2 ⟨rfl, hb2⟩
      clear kP0 kP1 kP2 kPl
      replace kP := kP.next hb2
      replace kT := kT.next hb2
      replace hB := below_step hb2 hs hB
      replace hs := hB.size
      have kP0 : (u2).cell? ⟨w.heap.size, 0, none⟩ = some (.int .i64 X) := kP.cell 0; have kP1 : (u2).cell? ⟨w.heap.size, 1, none⟩ = some (.int .i64 0) := kP.cell 1; have kP2 : (u2).cell? ⟨w.heap.size, 2, none⟩ = some (.int .i64 E) := kP.cell 2; have kPl : w.heap.size < (u2).heap.size := kP.lt
      have kT0 : (u2).cell? ⟨w.heap.size + 1, 0, none⟩ = some (.int .i64 0) := kT.cell 0; have kT1 : (u2).cell? ⟨w.heap.size + 1, 1, none⟩ = some (.int .i64 0) := kT.cell 1; have kT2 : (u2).cell? ⟨w.heap.size + 1, 2, none⟩ = some (.int .i64 0) := kT.cell 2; have kT3 : (u2).cell? ⟨w.heap.size + 1, 3, none⟩ = some (.int .i64 0) := kT.cell 3; have kT4 : (u2).cell? ⟨w.heap.size + 1, 4, none⟩ = some (.int .i64 0) := kT.cell 4; have kT5 : (u2).cell? ⟨w.heap.size + 1, 5, none⟩ = some (.int .i64 0) := kT.cell 5; have kTf0 : (u2).frozen? ⟨w.heap.size + 1, 0, none⟩ = false := kT.frozen 0; have kTf1 : (u2).frozen? ⟨w.heap.size + 1, 1, none⟩ = false := kT.frozen 1; have kTf2 : (u2).frozen? ⟨w.heap.size + 1, 2, none⟩ = false := kT.frozen 2; have kTf3 : (u2).frozen? ⟨w.heap.size + 1, 3, none⟩ = false := kT.frozen 3; have kTf4 : (u2).frozen? ⟨w.heap.size + 1, 4, none⟩ = false := kT.frozen 4; have kTf5 : (u2).frozen? ⟨w.heap.size + 1, 5, none⟩ = false := kT.frozen 5; have kTl : w.heap.size + 1 < (u2).heap.size := kT.lt
      go_wp2
      have R := ((((((kT.set 0 (.int .i64 0)).set 1 (.int .i64 0)).set 2 (.int .i64 0)).set 3 (.int .i64 0)).set 4 (.int .i64 0)).set 5 (.int .i64 0))
      have hR : Below w.heap.size w ((((((u2.setCell ⟨w.heap.size + 1, 0, none⟩ (.int .i64 0)).setCell ⟨w.heap.size + 1, 1, none⟩ (.int .i64 0)).setCell ⟨w.heap.size + 1, 2, none⟩ (.int .i64 0)).setCell ⟨w.heap.size + 1, 3, none⟩ (.int .i64 0)).setCell ⟨w.heap.size + 1, 4, none⟩ (.int .i64 0)).setCell ⟨w.heap.size + 1, 5, none⟩ (.int .i64 0)) := by (repeat' (first | (with_reducible exact Below.refl _ _) | (with_reducible refine below_step (by assumption) ?_ ?_) | (with_reducible refine Below.alloc ?_ ?_ _) | (with_reducible refine Below.setCell ?_ ?_ _) | (with_reducible refine below_drewN ?_ _) | (with_reducible refine Below.drew ?_) | omega | (simp; omega) | (simp; done)))
      simp only [List.setIfInBounds_toArray, List.set_cons_zero, List.set_cons_succ] at R
      clear kT kT0 kT1 kT2 kT3 kT4 kT5 kTf0 kTf1 kTf2 kTf3 kTf4 kTf5 kTl
      generalize ((((((u2.setCell ⟨w.heap.size + 1, 0, none⟩ (.int .i64 0)).setCell ⟨w.heap.size + 1, 1, none⟩ (.int .i64 0)).setCell ⟨w.heap.size + 1, 2, none⟩ (.int .i64 0)).setCell ⟨w.heap.size + 1, 3, none⟩ (.int .i64 0)).setCell ⟨w.heap.size + 1, 4, none⟩ (.int .i64 0)).setCell ⟨w.heap.size + 1, 5, none⟩ (.int .i64 0)) = W9 at R hR ⊢
      have R0 : (W9).cell? ⟨w.heap.size + 1, 0, none⟩ = some (.int .i64 0) := R.cell 0; have R1 : (W9).cell? ⟨w.heap.size + 1, 1, none⟩ = some (.int .i64 0) := R.cell 1; have R2 : (W9).cell? ⟨w.heap.size + 1, 2, none⟩ = some (.int .i64 0) := R.cell 2; have R3 : (W9).cell? ⟨w.heap.size + 1, 3, none⟩ = some (.int .i64 0) := R.cell 3; have R4 : (W9).cell? ⟨w.heap.size + 1, 4, none⟩ = some (.int .i64 0) := R.cell 4; have R5 : (W9).cell? ⟨w.heap.size + 1, 5, none⟩ = some (.int .i64 0) := R.cell 5; have Rl : w.heap.size + 1 < (W9).heap.size := R.lt
      refine bodyPost_ret (v := .tuple #[.agg #[.int .i64 0, .int .i64 0, .int .i64 0, .int .i64 0, .int .i64 0, .int .i64 0], .bool false]) (by simp [results, Try.results7, go_sem, R0, R1, R2, R3, R4, R5]) rfl ?_
      exact tofP_no rfl hR
theorem tof_all (n X Y E : Int) : ∃ (p1 p2 p3 p4 p5 p6 : Int) (o : Bool),
    (∀ w : World, Calls Try.prog 5 #[.int .i64 n, .agg #[.int .i64 X, .int .i64 Y, .int .i64 E]] w fun r w' => r = .returned (.tuple #[.agg #[.int .i64 p1, .int .i64 p2, .int .i64 p3, .int .i64 p4, .int .i64 p5, .int .i64 p6], .bool o]) ∧ Below w.heap.size w w') ∧
    (∀ w : World, Calls Try.prog 7 #[.int .i64 n, .agg #[.int .i64 X, .int .i64 Y, .int .i64 E]] w fun r w' => r = .returned (.tuple #[.agg #[.int .i64 p1, .int .i64 p2, .int .i64 p3, .int .i64 p4, .int .i64 p5, .int .i64 p6], .bool o]) ∧ Below w.heap.size w w') := by
  obtain ⟨a, b, c, d, e, f, o, h1, h2⟩ : ∃ (a b c d e f : Int) (o : Bool),
    (∀ w : World, Calls Try.prog 5 #[.int .i64 n, .agg #[.int .i64 X, .int .i64 Y, .int .i64 E]] w (tofP w a b c d e f o)) ∧
    (∀ w : World, Calls Try.prog 7 #[.int .i64 n, .agg #[.int .i64 X, .int .i64 Y, .int .i64 E]] w (tofP w a b c d e f o)) := by
    cases h : gtB n X Y E
    · exact ⟨0, 0, 0, 0, 0, 0, false, c_sTofNo n X Y E _ _ _ _ _ _ h, c_iTofNo n X Y E _ _ _ _ _ _ h⟩
    · obtain ⟨a, b, c, d, e, f, o, h1, h2, _⟩ := tof_both n X Y E h
      exact ⟨a, b, c, d, e, f, o, h1, h2⟩
  obtain ⟨p1, p2, p3, p4, p5, p6, hf⟩ := tofP_form a b c d e f o
  simp only [hf] at h1 h2
  exact ⟨p1, p2, p3, p4, p5, p6, o, h1, h2⟩
set_option maxHeartbeats 2000000 in
theorem c_toPoint (X Y E : Int) (w : World) :
    Calls Try.prog 6 #[.agg #[.int .i64 X, .int .i64 Y, .int .i64 E]] w fun e w' => e = .returned (.agg #[.int .i64 X, .int .i64 Y, .int .i64 E]) ∧ Below w.heap.size w w' := by
  go_enter Try.func6, Try.ntmps6
  go_wp2
  go_returns
  refine ⟨rfl, ?_⟩
  go_grown
set_option maxHeartbeats 4000000 in
theorem walk_FnExactTriangleOf (n X Y E : Int) (_ : (Lit.int .i64 n).wf = true) (_ : (Lit.int .i64 X).wf = true) (_ : (Lit.int .i64 Y).wf = true) (_ : (Lit.int .i64 E).wf = true) (w : World) :
    Calls Try.prog 3 #[.int .i64 n, .agg #[.int .i64 X, .int .i64 Y, .int .i64 E]] w fun e w' => e = .returned (.bool true) ∧ Below w.heap.size w w' := by
  obtain ⟨p1, p2, p3, p4, p5, p6, o, h1, h2⟩ := tof_all n X Y E
  have H1 := Lib.hid h1
  have H2 := Lib.hid h2
  clear h1 h2
  have kb := Blk.new w #[.int .i64 X, .int .i64 Y, .int .i64 E] 23
  cases o
  all_goals
    go_enter Try.func3, Try.ntmps3
    go_wp2_with fail
    refine (c_toPoint _ _ _ _).mono ?_
    rintro e w1 ⟨rfl, hb1⟩
    have kb1 := kb.next hb1
    have hB1 : Below w.heap.size w w1 := by (repeat' (first | (with_reducible exact Below.refl _ _) | (with_reducible refine below_step (by assumption) ?_ ?_) | (with_reducible refine Below.alloc ?_ ?_ _) | (with_reducible refine Below.setCell ?_ ?_ _) | (with_reducible refine below_drewN ?_ _) | (with_reducible refine Below.drew ?_) | omega | (simp; omega) | (simp; done)))
    go_wp2_with fail
    refine (H1.out _).mono ?_
    rintro e w2 ⟨rfl, hb2⟩
    have kb2 := (kb1.next hb2).alloc (.cells #[.int .i64 p1, .int .i64 p2, .int .i64 p3, .int .i64 p4, .int .i64 p5, .int .i64 p6] 27)
    have hB2 := below_step hb2 hB1.size hB1
    have k1 := Blk.new w2 #[.int .i64 p1, .int .i64 p2, .int .i64 p3, .int .i64 p4, .int .i64 p5, .int .i64 p6] 27
    have hB3 := hB2.alloc hB2.size (.cells #[.int .i64 p1, .int .i64 p2, .int .i64 p3, .int .i64 p4, .int .i64 p5, .int .i64 p6] 27)
    go_upto_region 2 with (fail)
    generalize w2.alloc _ = W2 at *
    generalize w2.heap.size = r5 at *
    have kb20 : (W2).cell? ⟨w.heap.size, 0, none⟩ = some (.int .i64 X) := kb2.cell 0; have kb21 : (W2).cell? ⟨w.heap.size, 1, none⟩ = some (.int .i64 Y) := kb2.cell 1; have kb22 : (W2).cell? ⟨w.heap.size, 2, none⟩ = some (.int .i64 E) := kb2.cell 2; have kb2l : w.heap.size < (W2).heap.size := kb2.lt
    go_wp2_with fail
    refine (c_toPoint _ _ _ _).mono ?_
    rintro e w4 ⟨rfl, hb4⟩
    have k4 := k1.next hb4
    have hB4 := below_step hb4 hB3.size hB3
    go_wp2_with fail
    refine (H2.out _).mono ?_
    rintro e w5 ⟨rfl, hb5⟩
    have k5 := k4.next hb5
    have hB5 := below_step hb5 hB4.size hB4
    have k50 : (w5).cell? ⟨r5, 0, none⟩ = some (.int .i64 p1) := k5.cell 0; have k51 : (w5).cell? ⟨r5, 1, none⟩ = some (.int .i64 p2) := k5.cell 1; have k52 : (w5).cell? ⟨r5, 2, none⟩ = some (.int .i64 p3) := k5.cell 2; have k53 : (w5).cell? ⟨r5, 3, none⟩ = some (.int .i64 p4) := k5.cell 3; have k54 : (w5).cell? ⟨r5, 4, none⟩ = some (.int .i64 p5) := k5.cell 4; have k55 : (w5).cell? ⟨r5, 5, none⟩ = some (.int .i64 p6) := k5.cell 5; have k5l : r5 < (w5).heap.size := k5.lt
    go_wp2_with fail
    (go_at_call 8; refine (c_eqTriangle _ _ _ _ _ _ _).mono ?_; rintro e w6 ⟨rfl, hb6⟩; obtain ⟨hc6, hf6⟩ := bcell hb6; have hz6 := hb6.size; (try simp only [World.size_alloc] at hz6); (try (have hy6 : w.heap.size < w6.heap.size := by omega)); (try (have hx6 := Nat.lt_of_succ_le hz6)); (try (have hv6 := Nat.lt_of_succ_le (Nat.le_of_lt hx6))); (try (have hy6_1 : w1.heap.size < w6.heap.size := by omega)); (try (have hy6_2 : w2.heap.size < w6.heap.size := by omega)); (try (have hy6_3 : w3.heap.size < w6.heap.size := by omega)); (try (have hy6_4 : w4.heap.size < w6.heap.size := by omega)); (try (have hy6_5 : w5.heap.size < w6.heap.size := by omega)))
    have hs5 := hB5.size
    go_wp2
    go_ret
    refine ⟨rfl, ?_⟩
    (repeat' (first | (with_reducible exact Below.refl _ _) | (with_reducible refine below_step (by assumption) ?_ ?_) | (with_reducible refine Below.alloc ?_ ?_ _) | (with_reducible refine Below.setCell ?_ ?_ _) | (with_reducible refine below_drewN ?_ _) | (with_reducible refine Below.drew ?_) | omega | (simp; omega) | (simp; done)))
end Go.Proofs.Ytcnfjapoopdiaaa
