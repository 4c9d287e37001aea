/- Walks: the step that undoes one. -/
import Derived.Test.YtpnpidepkfnofaaGreatDoorLog
import Derived.Test.YtpnpidepkfnofaaGreatDoorStep
import Derived.Test.YtpnpidepkfnofaaGreatDoorUndoPlain
import Derived.StillTailTactics
namespace Go.Proofs.YtpnpidepkfnofaaGreatDoor
open Go.RowKit

set_option maxHeartbeats 1000000 in
set_option maxRecDepth 20000 in
theorem c_tlUndo (k v : Int) (hk : k = 0 ∨ k = 1 ∨ k = 2 ∨ k = 3) (w : World) :
    Calls Tryz.prog 33 #[.agg #[.int .i64 k, .int .i64 v]] w fun e w' => e = .returned (.agg #[.int .i64 (undK k), .int .i64 v]) ∧ Below w.heap.size w w' := by
  rcases hk with rfl | rfl | rfl | rfl
  all_goals
    go_enter Tryz.func33, Tryz.ntmps33
    go_wp2
    go_returns
    refine ⟨rfl, ?_⟩
    go_grown
set_option maxHeartbeats 1000000 in
set_option maxRecDepth 20000 in
theorem c_undone0 (v : Int) (w : World) :
    Calls Tryz.prog 32 #[.agg #[.int .i64 0, .int .i64 v]] w fun e w' => e = .returned (.agg #[.int .i64 1, .int .i64 v]) ∧ Below w.heap.size w w' := by
  have hix : ∀ w, (Instr.index 88 (.agg #[.int .i64 1, .int .i64 0, .int .i64 3, .int .i64 2]) (.int .i64 0)).run Tryz.prog w = .ok (.int .i64 1) w := fun w => by kernel_rfl
  have hS := S9.new2 w (.int .i64 0) (.int .i64 v) (.int .i64 0) (.int .i64 0) 44 44
  go_enter Tryz.func32, Tryz.ntmps32
  go_wp2
  obtain ⟨q1, q2, q3, q4, q5, q6, q7, q8, q9, q10⟩ := hS
  generalize (w.alloc _).alloc _ = W at *
  (refine wp_region_still_tail 7 (by kernel_rfl) (by kernel_rfl) ?_; simp only [List.take_succ_cons, List.take_zero, List.drop_succ_cons, List.drop_zero]; (repeat still_step); refine wpStill_nil ?_)
  go_wp2
  refine bodyPost_ret (v := .agg #[.int .i64 1, .int .i64 v]) (by simp [results, Tryz.results32, go_sem, q3, q4]) rfl ⟨rfl, ?_⟩
  (repeat' (first | (with_reducible exact Below.refl _ _) | (with_reducible refine below_step (by assumption) ?_ ?_) | (with_reducible refine Below.alloc ?_ ?_ _) | (with_reducible refine Below.setCell ?_ ?_ _) | (with_reducible refine below_drewN ?_ _) | (with_reducible refine Below.drew ?_) | omega | (simp; omega) | (simp; done)))
set_option maxHeartbeats 1000000 in
set_option maxRecDepth 20000 in
theorem c_undone1 (v : Int) (w : World) :
    Calls Tryz.prog 32 #[.agg #[.int .i64 1, .int .i64 v]] w fun e w' => e = .returned (.agg #[.int .i64 0, .int .i64 v]) ∧ Below w.heap.size w w' := by
  have hix : ∀ w, (Instr.index 88 (.agg #[.int .i64 1, .int .i64 0, .int .i64 3, .int .i64 2]) (.int .i64 1)).run Tryz.prog w = .ok (.int .i64 0) w := fun w => by kernel_rfl
  have hS := S9.new2 w (.int .i64 1) (.int .i64 v) (.int .i64 0) (.int .i64 0) 44 44
  go_enter Tryz.func32, Tryz.ntmps32
  go_wp2
  obtain ⟨q1, q2, q3, q4, q5, q6, q7, q8, q9, q10⟩ := hS
  generalize (w.alloc _).alloc _ = W at *
  (refine wp_region_still_tail 7 (by kernel_rfl) (by kernel_rfl) ?_; simp only [List.take_succ_cons, List.take_zero, List.drop_succ_cons, List.drop_zero]; (repeat still_step); refine wpStill_nil ?_)
  go_wp2
  refine bodyPost_ret (v := .agg #[.int .i64 0, .int .i64 v]) (by simp [results, Tryz.results32, go_sem, q3, q4]) rfl ⟨rfl, ?_⟩
  (repeat' (first | (with_reducible exact Below.refl _ _) | (with_reducible refine below_step (by assumption) ?_ ?_) | (with_reducible refine Below.alloc ?_ ?_ _) | (with_reducible refine Below.setCell ?_ ?_ _) | (with_reducible refine below_drewN ?_ _) | (with_reducible refine Below.drew ?_) | omega | (simp; omega) | (simp; done)))
set_option maxHeartbeats 1000000 in
set_option maxRecDepth 20000 in
theorem c_undone2 (v : Int) (w : World) :
    Calls Tryz.prog 32 #[.agg #[.int .i64 2, .int .i64 v]] w fun e w' => e = .returned (.agg #[.int .i64 3, .int .i64 v]) ∧ Below w.heap.size w w' := by
  have hix : ∀ w, (Instr.index 88 (.agg #[.int .i64 1, .int .i64 0, .int .i64 3, .int .i64 2]) (.int .i64 2)).run Tryz.prog w = .ok (.int .i64 3) w := fun w => by kernel_rfl
  have hS := S9.new2 w (.int .i64 2) (.int .i64 v) (.int .i64 0) (.int .i64 0) 44 44
  go_enter Tryz.func32, Tryz.ntmps32
  go_wp2
  obtain ⟨q1, q2, q3, q4, q5, q6, q7, q8, q9, q10⟩ := hS
  generalize (w.alloc _).alloc _ = W at *
  (refine wp_region_still_tail 7 (by kernel_rfl) (by kernel_rfl) ?_; simp only [List.take_succ_cons, List.take_zero, List.drop_succ_cons, List.drop_zero]; (repeat still_step); refine wpStill_nil ?_)
  go_wp2
  refine bodyPost_ret (v := .agg #[.int .i64 3, .int .i64 v]) (by simp [results, Tryz.results32, go_sem, q3, q4]) rfl ⟨rfl, ?_⟩
  (repeat' (first | (with_reducible exact Below.refl _ _) | (with_reducible refine below_step (by assumption) ?_ ?_) | (with_reducible refine Below.alloc ?_ ?_ _) | (with_reducible refine Below.setCell ?_ ?_ _) | (with_reducible refine below_drewN ?_ _) | (with_reducible refine Below.drew ?_) | omega | (simp; omega) | (simp; done)))
set_option maxHeartbeats 1000000 in
set_option maxRecDepth 20000 in
theorem c_undone3 (v : Int) (w : World) :
    Calls Tryz.prog 32 #[.agg #[.int .i64 3, .int .i64 v]] w fun e w' => e = .returned (.agg #[.int .i64 2, .int .i64 v]) ∧ Below w.heap.size w w' := by
  have hix : ∀ w, (Instr.index 88 (.agg #[.int .i64 1, .int .i64 0, .int .i64 3, .int .i64 2]) (.int .i64 3)).run Tryz.prog w = .ok (.int .i64 2) w := fun w => by kernel_rfl
  have hS := S9.new2 w (.int .i64 3) (.int .i64 v) (.int .i64 0) (.int .i64 0) 44 44
  go_enter Tryz.func32, Tryz.ntmps32
  go_wp2
  obtain ⟨q1, q2, q3, q4, q5, q6, q7, q8, q9, q10⟩ := hS
  generalize (w.alloc _).alloc _ = W at *
  (refine wp_region_still_tail 7 (by kernel_rfl) (by kernel_rfl) ?_; simp only [List.take_succ_cons, List.take_zero, List.drop_succ_cons, List.drop_zero]; (repeat still_step); refine wpStill_nil ?_)
  go_wp2
  refine bodyPost_ret (v := .agg #[.int .i64 2, .int .i64 v]) (by simp [results, Tryz.results32, go_sem, q3, q4]) rfl ⟨rfl, ?_⟩
  (repeat' (first | (with_reducible exact Below.refl _ _) | (with_reducible refine below_step (by assumption) ?_ ?_) | (with_reducible refine Below.alloc ?_ ?_ _) | (with_reducible refine Below.setCell ?_ ?_ _) | (with_reducible refine below_drewN ?_ _) | (with_reducible refine Below.drew ?_) | omega | (simp; omega) | (simp; done)))
theorem c_undone (k v : Int) (hk : k = 0 ∨ k = 1 ∨ k = 2 ∨ k = 3) (w : World) :
    Calls Tryz.prog 32 #[.agg #[.int .i64 k, .int .i64 v]] w fun e w' => e = .returned (.agg #[.int .i64 (undK k), .int .i64 v]) ∧ Below w.heap.size w w' := by
  rcases hk with rfl | rfl | rfl | rfl
  · exact c_undone0 v w
  · exact c_undone1 v w
  · exact c_undone2 v w
  · exact c_undone3 v w
end Go.Proofs.YtpnpidepkfnofaaGreatDoor
