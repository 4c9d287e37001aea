/- Walks: the laws of CheckLog. -/
import Derived.Test.YtmahgnmacakfnaaCrv2
namespace Go.Proofs.Ytmahgnmacakfnaa
open Go.RowKit

set_option maxHeartbeats 4000000 in
theorem walk_FnExactCheckLog (A B C D : Int) (v : Value) (L : List (Int × Int)) (_ : (Lit.int .i64 A).wf = true) (_ : (Lit.int .i64 B).wf = true) (_ : (Lit.int .i64 C).wf = true) (_ : (Lit.int .i64 D).wf = true) (_ : ∀ c ∈ L, (Lit.int .i64 c.1).wf = true ∧ (Lit.int .i64 c.2).wf = true) (w : World) (o : RdP w v L) :
    Calls Try.prog 7 #[.agg #[.int .i64 A, .int .i64 B], v, .agg #[.int .i64 C, .int .i64 D]] w fun e w' => e = .returned (.bool true) ∧ Below w.heap.size w w' := by
  have h0 := fun W hW => c_szStepS v L W (RdP.belowN (w1 := W) o hW)
  by_cases hL : L.length ≤ 1048576
  · simp only [if_pos hL] at h0
    have hs : (0 : Int) ≤ 1048576 - L.length := by omega
    have h1 := fun base u W => c_sCheckLog base u A B L C D (by omega) W
    have h2 := fun base u W => c_iCheckLog base u A B L C D (by omega) W
    generalize ckB A B L C D = r at h1 h2
    generalize ckO A B L C D = b at h1 h2
    have H0 := Lib.hid h0
    have H1 := Lib.hid h1
    have H2 := Lib.hid h2
    have HO := Lib.hid o
    clear h0 h1 h2 o
    generalize hz : (1048576 - L.length : Int) = z at H0 hs
    clear hz
    have ka := (Blk.new w #[.int .i64 A, .int .i64 B] 31).alloc (.cells #[.int .i64 C, .int .i64 D] 31)
    have kc := Blk.new (w.alloc (.cells #[.int .i64 A, .int .i64 B] 31)) #[.int .i64 C, .int .i64 D] 31
    have hB0 : Below w.heap.size w ((w.alloc (.cells #[.int .i64 A, .int .i64 B] 31)).alloc (.cells #[.int .i64 C, .int .i64 D] 31)) := by (repeat' (first | (with_reducible exact Below.refl _ _) | (with_reducible refine below_step (by assumption) ?_ ?_) | (with_reducible refine Below.alloc ?_ ?_ _) | (with_reducible refine Below.setCell ?_ ?_ _) | (with_reducible refine below_drewN ?_ _) | (with_reducible refine Below.drew ?_) | omega | (simp; omega) | (simp; done)))
    simp only [World.size_alloc] at kc
    all_goals
      go_enter Try.func7, Try.ntmps7
      go_wp2_with fail
      refine (H0.out _ (by (repeat' (first | (with_reducible exact Below.refl _ _) | (with_reducible refine below_step (by assumption) ?_ ?_) | (with_reducible refine Below.alloc ?_ ?_ _) | (with_reducible refine Below.setCell ?_ ?_ _) | (with_reducible refine below_drewN ?_ _) | (with_reducible refine Below.drew ?_) | omega | (simp; omega) | (simp; done))))).mono ?_
      rintro e w' ⟨rfl, rfl⟩
      go_wp2
      generalize (w.alloc _).alloc _ = W at *
      have hs0 := hB0.size
      have ka0 : (W).cell? ⟨w.heap.size, 0, none⟩ = some (.int .i64 A) := ka.cell 0; have ka1 : (W).cell? ⟨w.heap.size, 1, none⟩ = some (.int .i64 B) := ka.cell 1; have kal : w.heap.size < (W).heap.size := ka.lt
      have kc0 : (W).cell? ⟨w.heap.size + 1, 0, none⟩ = some (.int .i64 C) := kc.cell 0; have kc1 : (W).cell? ⟨w.heap.size + 1, 1, none⟩ = some (.int .i64 D) := kc.cell 1; have kcl : w.heap.size + 1 < (W).heap.size := kc.lt
      refine wp_region_cls [] (fun _ => false) (fun _ => True) (fun _ => True) (by kernel_rfl) (trivial) ?_
      apply wpAnyF_hd ⟨W, Over.refl _ _, trivial⟩ [true, false, true, false, true] 9 (Closed.true) (fun _ _ => trivial) (by kernel_rfl) (by kernel_rfl) (by kernel_rfl) (by kernel_rfl) (by simp)
      · intro E hE hEN hEn; (repeat (first | (refine wpHL_take ?_; go_big_quiet_step (fail); refine wpQuiet_nil ?_) | refine wpHL_skip ?_)); exact wpHL_end rfl
      refine wpAnyF_ready [1] 8 (by kernel_rfl) (by kernel_rfl) (by simp) (AllF.cons ?_ AllF.nil)
      refine stepC_call (v := .agg #[.int .i64 A, .int .i64 B]) (some 20) (fun _ => True) (by rfl) (by rfl) (by rfl) (fun _ => by go_simp) (Closed.true) (fun w' hO hD => (c_toCurve _ _ _).mono fun e w2 h => ⟨h.1, .of_below h.2, trivial⟩) (fun hne => ?_)
      simp only [Act.put, List.setIfInBounds_toArray, List.set_cons_succ, List.set_cons_zero]
      refine wpAnyF_ready [3] 7 (by kernel_rfl) (by kernel_rfl) (by simp) (AllF.cons ?_ AllF.nil)
      refine stepC_calle (some 22) (fun u => fun w' => OwnsS w' W.heap.size u L) (by rfl) (by rfl) (by rfl) (fun _ => by go_simp) (fun u => fun _ _ h hb => OwnsP.below h hb) (fun w' hO hD => (c_toStepS v L hL _ (RdP.belowN HO.out (below_step hO.below hs0 hB0))).mono fun e w2 ⟨v', h1, h2, h3⟩ => ⟨v', h1, .of_below h3, h2.le hO.size⟩) (fun u hne => ?_)
      simp only [Act.put, List.setIfInBounds_toArray, List.set_cons_succ, List.set_cons_zero]
      refine wpAnyF_ready [5] 6 (by kernel_rfl) (by kernel_rfl) (by simp) (AllF.cons ?_ AllF.nil)
      refine stepC_call (v := .agg #[.int .i64 C, .int .i64 D]) (some 24) (fun w' => OwnsS w' W.heap.size u L) (by rfl) (by rfl) (by rfl) (fun _ => by go_simp) (fun _ _ h hb => OwnsP.below h hb) (fun w' hO hD => (c_toCurve _ _ _).mono fun e w2 h => ⟨h.1, .of_below h.2, OwnsP.below hD h.2⟩) (fun hne => ?_)
      simp only [Act.put, List.setIfInBounds_toArray, List.set_cons_succ, List.set_cons_zero]
      refine wpAnyF_ready [6] 5 (by kernel_rfl) (by kernel_rfl) (by simp) (AllF.cons ?_ AllF.nil)
      refine stepC_call (v := _) (some 25) (fun _ => True) (by rfl) (by rfl) (by rfl) (fun _ => by go_simp) (Closed.true) (fun w' hO hD => (H1.out _ _ _ hD).mono fun e w2 h => ⟨h.1, .of_below h.2, trivial⟩) (fun hne => ?_)
      simp only [Act.put, List.setIfInBounds_toArray, List.set_cons_succ, List.set_cons_zero]
      apply wpAnyF_hd hne [false, false, false, false, false, false, false, true, true, true, true, true] 0 (Closed.true) (fun _ _ => trivial) (by kernel_rfl) (by kernel_rfl) (by kernel_rfl) (by kernel_rfl) (by simp)
      · intro E hE hEN hEn; (repeat (first | (refine wpHL_take ?_; go_big_quiet_step (fail); refine wpQuiet_nil ?_) | refine wpHL_skip ?_)); exact wpHL_end rfl
      refine wpAnyF_done (by kernel_rfl) (fun Wz hOz hDz => NoPanic.normal ?_) _
      try dsimp only
      have bb1 : Below w.heap.size w Wz := below_step hOz.below hs0 hB0
      have kA2 := ka.over hOz (by simp)
      have kC2 := kc.over hOz (by simp)
      have hs1 := bb1.size
      clear hOz hDz hne ka kc hB0 ka0 ka1 kc0 kc1
      go_wp2_with fail
      refine (c_toStepS v L hL _ (RdP.belowN HO.out bb1)).mono ?_
      rintro e w3 ⟨u3, rfl, a3, hb3⟩
      have ka3 := kA2.next hb3
      have kc3 := kC2.next hb3
      have bb3 : Below w.heap.size w w3 := below_step hb3 hs1 bb1
      have hs3 := bb3.size
      go_wp2
      have ka30 : (w3).cell? ⟨w.heap.size, 0, none⟩ = some (.int .i64 A) := ka3.cell 0; have ka31 : (w3).cell? ⟨w.heap.size, 1, none⟩ = some (.int .i64 B) := ka3.cell 1; have ka3l : w.heap.size < (w3).heap.size := ka3.lt
      have kc30 : (w3).cell? ⟨w.heap.size + 1, 0, none⟩ = some (.int .i64 C) := kc3.cell 0; have kc31 : (w3).cell? ⟨w.heap.size + 1, 1, none⟩ = some (.int .i64 D) := kc3.cell 1; have kc3l : w.heap.size + 1 < (w3).heap.size := kc3.lt
      refine wp_region_cls [] (fun _ => false) (fun _ => True) (fun w' => OwnsS w' Wz.heap.size u3 L) (by kernel_rfl) (a3) ?_
      apply wpAnyF_hd ⟨w3, Over.refl _ _, a3⟩ [true, false, true, true] 8 (fun _ _ h hb => OwnsP.below h hb) (fun _ _ => trivial) (by kernel_rfl) (by kernel_rfl) (by kernel_rfl) (by kernel_rfl) (by simp)
      · intro E hE hEN hEn; (repeat (first | (refine wpHL_take ?_; go_big_quiet_step (fail); refine wpQuiet_nil ?_) | refine wpHL_skip ?_)); exact wpHL_end rfl
      refine wpAnyF_ready [1] 7 (by kernel_rfl) (by kernel_rfl) (by simp) (AllF.cons ?_ AllF.nil)
      refine stepC_call (v := .agg #[.int .i64 A, .int .i64 B]) (some 32) (fun w' => OwnsS w' Wz.heap.size u3 L) (by rfl) (by rfl) (by rfl) (fun _ => by go_simp) (fun _ _ h hb => OwnsP.below h hb) (fun w' hO hD => (c_toCurve _ _ _).mono fun e w2 h => ⟨h.1, .of_below h.2, OwnsP.below hD h.2⟩) (fun hne => ?_)
      simp only [Act.put, List.setIfInBounds_toArray, List.set_cons_succ, List.set_cons_zero]
      refine wpAnyF_ready [4] 6 (by kernel_rfl) (by kernel_rfl) (by simp) (AllF.cons ?_ AllF.nil)
      refine stepC_call (v := .agg #[.int .i64 C, .int .i64 D]) (some 35) (fun w' => OwnsS w' Wz.heap.size u3 L) (by rfl) (by rfl) (by rfl) (fun _ => by go_simp) (fun _ _ h hb => OwnsP.below h hb) (fun w' hO hD => (c_toCurve _ _ _).mono fun e w2 h => ⟨h.1, .of_below h.2, OwnsP.below hD h.2⟩) (fun hne => ?_)
      simp only [Act.put, List.setIfInBounds_toArray, List.set_cons_succ, List.set_cons_zero]
      refine wpAnyF_ready [5] 5 (by kernel_rfl) (by kernel_rfl) (by simp) (AllF.cons ?_ AllF.nil)
      refine stepC_call (v := .tuple #[.bool r, .bool b]) (some 36) (fun w' => OwnsS w' Wz.heap.size u3 L) (by rfl) (by rfl) (by rfl) (fun _ => by go_simp) (fun _ _ h hb => OwnsP.below h hb) (fun w' hO hD => (H2.out _ _ _ hD).mono fun e w2 h => ⟨h.1, .of_below h.2, OwnsP.below hD h.2⟩) (fun hne => ?_)
      simp only [Act.put, List.setIfInBounds_toArray, List.set_cons_succ, List.set_cons_zero]
      apply wpAnyF_hd hne [false, false, false, false, false, false, true, true, true, true, true] 0 (fun _ _ h hb => OwnsP.below h hb) (fun _ _ => trivial) (by kernel_rfl) (by kernel_rfl) (by kernel_rfl) (by kernel_rfl) (by simp)
      · intro E hE hEN hEn; (repeat (first | (refine wpHL_take ?_; go_big_quiet_step (fail); refine wpQuiet_nil ?_) | refine wpHL_skip ?_)); exact wpHL_end rfl
      refine wpAnyF_done (by kernel_rfl) (fun W5 hO5 hD5 => NoPanic.normal ?_) _
      try dsimp only
      have bb5 : Below w.heap.size w W5 := below_step hO5.below hs3 bb3
      clear hO5 hne ka3 kc3 ka30 ka31 kc30 kc31
      go_wp2_with fail
      refine (c_toStepS v L hL _ (RdP.belowN HO.out bb5)).mono ?_
      rintro e w7 ⟨u7, rfl, a7, hb7⟩
      have a37 := OwnsP.below hD5 hb7
      have bb7 : Below w.heap.size w w7 := below_step hb7 bb5.size bb5
      go_wp2_with fail
      refine (c_eqStepS _ _ _ _ L (by omega) _ a37 a7).mono ?_
      rintro e w8 ⟨rfl, hb8⟩
      have bb8 : Below w.heap.size w w8 := below_step hb8 bb7.size bb7
      go_wp2
      go_ret
      exact ⟨rfl, bb8⟩
  · simp only [if_neg hL] at h0
    go_enter Try.func7, Try.ntmps7
    go_wp2_with fail
    refine (h0 _ (by (repeat' (first | (with_reducible exact Below.refl _ _) | (with_reducible refine below_step (by assumption) ?_ ?_) | (with_reducible refine Below.alloc ?_ ?_ _) | (with_reducible refine Below.setCell ?_ ?_ _) | (with_reducible refine below_drewN ?_ _) | (with_reducible refine Below.drew ?_) | omega | (simp; omega) | (simp; done))))).mono ?_
    rintro e w' ⟨rfl, rfl⟩
    go_wp2
    go_ret
    refine ⟨rfl, ?_⟩
    (repeat' (first | (with_reducible exact Below.refl _ _) | (with_reducible refine below_step (by assumption) ?_ ?_) | (with_reducible refine Below.alloc ?_ ?_ _) | (with_reducible refine Below.setCell ?_ ?_ _) | (with_reducible refine below_drewN ?_ _) | (with_reducible refine Below.drew ?_) | omega | (simp; omega) | (simp; done)))
end Go.Proofs.Ytmahgnmacakfnaa
