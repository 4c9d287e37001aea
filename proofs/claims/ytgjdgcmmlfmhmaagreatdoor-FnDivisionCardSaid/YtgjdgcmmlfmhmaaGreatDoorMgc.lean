/- Several texts joined: FmO FmL. -/
import Derived.Test.YtgjdgcmmlfmhmaaGreatDoorFmT
import Derived.Test.YtgjdgcmmlfmhmaaGreatDoorMga
import Derived.Test.YtgjdgcmmlfmhmaaGreatDoorMgb
/- FmO -/
namespace Go.Proofs.YtgjdgcmmlfmhmaaGreatDoor
open Go.RowKit

set_option maxHeartbeats 1000000 in
theorem c_fmOn (A B p a b : Int) (hA : -1000 ≤ A ∧ A ≤ 1000) (hB : -10000 ≤ B ∧ B ≤ 10000) (hp : 5 ≤ p ∧ p ≤ 31) (ha : 0 ≤ a ∧ a < p) (hb : 0 ≤ b ∧ b < p) (hon : b * b % p = fV A B a % p) (v : Value) (w : World) (rs : RdL w v [a, b]) :
    Calls Tryz.prog 94 #[.agg #[.int .i64 A, .int .i64 B], .int .i64 p, v] w fun e w' => e = .returned (.bool true) ∧ Below w.heap.size w w' := by
  have hall : ∀ x ∈ [a, b], (0 : Int) ≤ x ∧ x ≤ p - 1 := by simp; omega
  have hb0 : Below w.heap.size w (w.alloc (.cells #[.int .i64 A, .int .i64 B] 24)) := (Below.refl _ _).alloc (Nat.le_refl _) _
  have kC := Blk.new w #[.int .i64 A, .int .i64 B] 24
  have hsz := hb0.size
  have js := rs.below hb0
  have mb := mulb (x := b) (y := b) 31 31 (by omega) (by omega)
  have mb2 := Int.mul_nonneg hb.1 hb.1
  have hp0 : (p == 0) = false := by simp; omega
  obtain ⟨g, o, cap, rfl, s0, s1, hg⟩ := RdL.two js
  have hon' : (b * b % p == fV A B a % p) = true := by simp [hon]
  go_enter Tryz.func94, Tryz.ntmps94
  go_upto_region 3 with (fail)
  generalize w.alloc _ = W at *
  have kC0 : (W).cell? ⟨w.heap.size, 0, none⟩ = some (.int .i64 A) := kC.cell 0; have kC1 : (W).cell? ⟨w.heap.size, 1, none⟩ = some (.int .i64 B) := kC.cell 1; have kCl : w.heap.size < (W).heap.size := kC.lt
  refine wp_region_cls [] (fun _ => false) (fun _ => True) (fun _ => True) (by kernel_rfl) (trivial) ?_
  apply wpAnyF_hd ⟨W.drew, (Over.refl _ _).drew, trivial⟩ [true, true, true, true, true, true, true] 21 (Closed.true) (fun _ _ => trivial) (by kernel_rfl) (by kernel_rfl) (by kernel_rfl) (by kernel_rfl) (by simp)
  · intro E hE hEN hEn; (repeat (first | (refine wpHL_take ?_; go_big_quiet_step (fail); refine wpQuiet_nil ?_) | refine wpHL_skip ?_)); exact wpHL_end rfl
  refine wpAnyF_ready [7] 20 (by kernel_rfl) (by kernel_rfl) (by simp) (AllF.cons ?_ AllF.nil)
  refine stepC_call (v := .bool true) (some 17) (fun _ => True) (by rfl) (by rfl) (by rfl) (fun _ => by go_simp) (Closed.true) (fun w' hO _ => (c_l1All [a, b] 0 (p - 1) _ hall (by simp) w' (js.below hO.below)).mono fun e w2 h => ⟨h.1, by rw [← h.2]; exact Over.refl _ _, trivial⟩) (fun hne => ?_)
  simp only [Act.put, List.setIfInBounds_toArray, List.set_cons_succ, List.set_cons_zero]
  apply wpAnyF_hd hne [false, false, false, false, false, false, false, false, true, true, true, true, true, true, true, true, true, true, true, true, true, true, true, true] 4 (Closed.true) (fun _ _ => trivial) (by kernel_rfl) (by kernel_rfl) (by kernel_rfl) (by kernel_rfl) (by simp)
  · intro E hE hEN hEn; (repeat (first | (refine wpHL_take ?_; go_big_quiet_step (fail); refine wpQuiet_nil ?_) | refine wpHL_skip ?_)); exact wpHL_end rfl
  refine wpAnyF_ready [24] 3 (by kernel_rfl) (by kernel_rfl) (by simp) (AllF.cons ?_ AllF.nil)
  refine stepC_call (v := .int .i64 (fV A B a % p)) (some 34) (fun _ => True) (by rfl) (by rfl) (by rfl) (fun _ => by go_simp) (Closed.true) (fun w' hO _ => (c_fmValue A B p a hA hB (by omega) (by omega) w').mono fun e w2 h => ⟨h.1, .of_below h.2, trivial⟩) (fun hne => ?_)
  simp only [Act.put, List.setIfInBounds_toArray, List.set_cons_succ, List.set_cons_zero]
  apply wpAnyF_hd hne [false, false, false, false, false, false, false, false, false, false, false, false, false, false, false, false, false, false, false, false, false, false, false, false, false, true, true, true] 0 (Closed.true) (fun _ _ => trivial) (by kernel_rfl) (by kernel_rfl) (by kernel_rfl) (by kernel_rfl) (by simp)
  · intro E hE hEN hEn; (repeat (first | (refine wpHL_take ?_; go_big_quiet_step (fail); refine wpQuiet_nil ?_) | refine wpHL_skip ?_)); exact wpHL_end rfl
  refine wpAnyF_done (by kernel_rfl) (fun Wz hOz hDz => NoPanic.normal ?_) _
  try dsimp only
  have hB := below_step hOz.below hsz hb0
  go_wp2
  go_ret
  exact ⟨rfl, hB⟩
set_option maxHeartbeats 1000000 in
theorem c_onField (A B p a b : Int) (hA : -1000 ≤ A ∧ A ≤ 1000) (hB : -10000 ≤ B ∧ B ≤ 10000) (hp : 5 ≤ p ∧ p ≤ 31) (ha : 0 ≤ a ∧ a < p) (hb : 0 ≤ b ∧ b < p) (hon : b * b % p = fV A B a % p) (v : Value) (w : World) (rs : RdL w v [a, b]) :
    Calls Tryz.prog 57 #[.agg #[.int .i64 A, .int .i64 B], .int .i64 p, v] w fun e w' => e = .returned (.bool true) ∧ Below w.heap.size w w' := by
  have ia : inB a 0 (p - 1) = true := inB_in (by omega)
  have ib : inB b 0 (p - 1) = true := inB_in (by omega)
  have hb0 : Below w.heap.size w (w.alloc (.cells #[.int .i64 A, .int .i64 B] 24)) := (Below.refl _ _).alloc (Nat.le_refl _) _
  have kC := Blk.new w #[.int .i64 A, .int .i64 B] 24
  have hsz := hb0.size
  have js := rs.below hb0
  have mb := mulb (x := b) (y := b) 31 31 (by omega) (by omega)
  have mb2 := Int.mul_nonneg hb.1 hb.1
  have hp0 : (p == 0) = false := by simp; omega
  obtain ⟨g, o, cap, rfl, s0, s1, hg⟩ := RdL.two js
  have hon' : (b * b % p == fV A B a % p) = true := by simp [hon]
  go_enter Tryz.func57, Tryz.ntmps57
  go_upto_region 3 with (fail)
  generalize w.alloc _ = W at *
  have kC0 : (W).cell? ⟨w.heap.size, 0, none⟩ = some (.int .i64 A) := kC.cell 0; have kC1 : (W).cell? ⟨w.heap.size, 1, none⟩ = some (.int .i64 B) := kC.cell 1; have kCl : w.heap.size < (W).heap.size := kC.lt
  refine wp_region_cls [] (fun _ => false) (fun _ => True) (fun _ => True) (by kernel_rfl) (trivial) ?_
  apply wpAnyF_hd ⟨W.drew, (Over.refl _ _).drew, trivial⟩ [true, true, true, true, true, true, true, true, true] 29 (Closed.true) (fun _ _ => trivial) (by kernel_rfl) (by kernel_rfl) (by kernel_rfl) (by kernel_rfl) (by simp)
  · intro E hE hEN hEn; (repeat (first | (refine wpHL_take ?_; go_big_quiet_step (fail); refine wpQuiet_nil ?_) | refine wpHL_skip ?_)); exact wpHL_end rfl
  refine wpAnyF_ready [9] 28 (by kernel_rfl) (by kernel_rfl) (by simp) (AllF.cons ?_ AllF.nil)
  refine stepC_call (v := .bool true) (some 19) (fun _ => True) (by rfl) (by rfl) (by rfl) (fun _ => by go_simp) (Closed.true) (fun w' hO _ => (c_inside a 0 (p - 1) w').mono fun e w2 h => ⟨h.1.trans (by rw [ia]), by rw [← h.2]; exact Over.refl _ _, trivial⟩) (fun hne => ?_)
  simp only [Act.put, List.setIfInBounds_toArray, List.set_cons_succ, List.set_cons_zero]
  apply wpAnyF_hd hne [false, false, false, false, false, false, false, false, false, false, true, true, true, true, true, true, true] 21 (Closed.true) (fun _ _ => trivial) (by kernel_rfl) (by kernel_rfl) (by kernel_rfl) (by kernel_rfl) (by simp)
  · intro E hE hEN hEn; (repeat (first | (refine wpHL_take ?_; go_big_quiet_step (fail); refine wpQuiet_nil ?_) | refine wpHL_skip ?_)); exact wpHL_end rfl
  refine wpAnyF_ready [17] 20 (by kernel_rfl) (by kernel_rfl) (by simp) (AllF.cons ?_ AllF.nil)
  refine stepC_call (v := .bool true) (some 27) (fun _ => True) (by rfl) (by rfl) (by rfl) (fun _ => by go_simp) (Closed.true) (fun w' hO _ => (c_inside b 0 (p - 1) w').mono fun e w2 h => ⟨h.1.trans (by rw [ib]), by rw [← h.2]; exact Over.refl _ _, trivial⟩) (fun hne => ?_)
  simp only [Act.put, List.setIfInBounds_toArray, List.set_cons_succ, List.set_cons_zero]
  apply wpAnyF_hd hne [false, false, false, false, false, false, false, false, false, false, false, false, false, false, false, false, false, false, true, true, true, true, true, true, true, true, true, true, true, true, true, true, true, true] 4 (Closed.true) (fun _ _ => trivial) (by kernel_rfl) (by kernel_rfl) (by kernel_rfl) (by kernel_rfl) (by simp)
  · intro E hE hEN hEn; (repeat (first | (refine wpHL_take ?_; go_big_quiet_step (fail); refine wpQuiet_nil ?_) | refine wpHL_skip ?_)); exact wpHL_end rfl
  refine wpAnyF_ready [34] 3 (by kernel_rfl) (by kernel_rfl) (by simp) (AllF.cons ?_ AllF.nil)
  refine stepC_call (v := .int .i64 (fV A B a % p)) (some 44) (fun _ => True) (by rfl) (by rfl) (by rfl) (fun _ => by go_simp) (Closed.true) (fun w' hO _ => (c_rightSide A B p a hA hB (by omega) (by omega) w').mono fun e w2 h => ⟨h.1, .of_below h.2, trivial⟩) (fun hne => ?_)
  simp only [Act.put, List.setIfInBounds_toArray, List.set_cons_succ, List.set_cons_zero]
  apply wpAnyF_hd hne [false, false, false, false, false, false, false, false, false, false, false, false, false, false, false, false, false, false, false, false, false, false, false, false, false, false, false, false, false, false, false, false, false, false, false, true, true, true] 0 (Closed.true) (fun _ _ => trivial) (by kernel_rfl) (by kernel_rfl) (by kernel_rfl) (by kernel_rfl) (by simp)
  · intro E hE hEN hEn; (repeat (first | (refine wpHL_take ?_; go_big_quiet_step (fail); refine wpQuiet_nil ?_) | refine wpHL_skip ?_)); exact wpHL_end rfl
  refine wpAnyF_done (by kernel_rfl) (fun Wz hOz hDz => NoPanic.normal ?_) _
  try dsimp only
  have hB := below_step hOz.below hsz hb0
  go_wp2
  go_ret
  exact ⟨rfl, hB⟩
theorem c_fmSmall (A B p : Int) (hC : curveB A B = true) (hg : goodP A B p = true) (hp : p ≤ 31) (w : World) :
    Calls Tryz.prog 54 #[.agg #[.int .i64 A, .int .i64 B], .int .i64 p] w fun e w' => e = .returned (.bool true) ∧ Below w.heap.size w w' := by
  have h0 : (curveB A B && goodP A B p) = true := by rw [hC, hg]; rfl
  have h1 := fun W => c_fmGood A B p W
  rw [h0] at h1
  have H1 := Lib.hid h1
  clear h1 h0 hC hg
  have hle : decide (p ≤ 199) = true := by simp; omega
  go_enter Tryz.func54, Tryz.ntmps54
  go_wp2_with ((go_at_call 69; refine (H1.out _).mono ?_; rintro e w1 ⟨rfl, hb1⟩; obtain ⟨hc1, hf1⟩ := bcell hb1; have hz1 := hb1.size; (try simp only [World.size_alloc] at hz1); (try (have hy1 : w.heap.size < w1.heap.size := by omega)); (try (have hx1 := Nat.lt_of_succ_le hz1)); (try (have hv1 := Nat.lt_of_succ_le (Nat.le_of_lt hx1)))))
  go_ret
  refine ⟨rfl, ?_⟩
  (repeat' (first | (with_reducible exact Below.refl _ _) | (with_reducible refine below_step (by assumption) ?_ ?_) | (with_reducible refine Below.alloc ?_ ?_ _) | (with_reducible refine Below.setCell ?_ ?_ _) | (with_reducible refine below_drewN ?_ _) | (with_reducible refine Below.drew ?_) | omega | (simp; omega) | (simp; done)))
theorem c_fieldFits (A B p : Int) (hC : curveB A B = true) (hg : goodP A B p = true) (hp : p ≤ 31) (w : World) :
    Calls Tryz.prog 56 #[.agg #[.int .i64 A, .int .i64 B], .int .i64 p] w fun e w' => e = .returned (.bool true) ∧ Below w.heap.size w w' := by
  obtain ⟨hA, hB⟩ := curve_of hC
  have h1 := fun W => c_isCurve A B W
  have h2 := fun W => c_isGood A B p hA hB W
  rw [hC] at h1
  rw [hg] at h2
  have H1 := Lib.hid h1
  have H2 := Lib.hid h2
  clear h1 h2 hC hg
  go_enter Tryz.func56, Tryz.ntmps56
  go_wp2_with (first | (go_at_call 44; refine (H1.out _).mono ?_; rintro e w1 ⟨rfl, hb1⟩; obtain ⟨hc1, hf1⟩ := bcell hb1; have hz1 := hb1.size; (try simp only [World.size_alloc] at hz1); (try (have hy1 : w.heap.size < w1.heap.size := by omega)); (try (have hx1 := Nat.lt_of_succ_le hz1)); (try (have hv1 := Nat.lt_of_succ_le (Nat.le_of_lt hx1)))) | (go_at_call 65; refine (H2.out _).mono ?_; rintro e w2 ⟨rfl, hb2⟩; obtain ⟨hc2, hf2⟩ := bcell hb2; have hz2 := hb2.size; (try simp only [World.size_alloc] at hz2); (try (have hy2 : w.heap.size < w2.heap.size := by omega)); (try (have hx2 := Nat.lt_of_succ_le hz2)); (try (have hv2 := Nat.lt_of_succ_le (Nat.le_of_lt hx2))); (try (have hy2_1 : w1.heap.size < w2.heap.size := by omega))))
  go_ret
  refine ⟨rfl, ?_⟩
  (repeat' (first | (with_reducible exact Below.refl _ _) | (with_reducible refine below_step (by assumption) ?_ ?_) | (with_reducible refine Below.alloc ?_ ?_ _) | (with_reducible refine Below.setCell ?_ ?_ _) | (with_reducible refine below_drewN ?_ _) | (with_reducible refine Below.drew ?_) | omega | (simp; omega) | (simp; done)))
/-- a point of a curve modulo a small prime -/
def OnP (A B p : Int) (a b : Int) : Prop := curveB A B = true ∧ goodP A B p = true ∧ (5 ≤ p ∧ p ≤ 31) ∧ (0 ≤ a ∧ a < p) ∧ (0 ≤ b ∧ b < p) ∧ b * b % p = fV A B a % p
theorem c_fmAsked (A B p a b : Int) (h : OnP A B p a b) (v : Value) (w : World) (rs : RdL w v [a, b]) :
    Calls Tryz.prog 59 #[.agg #[.int .i64 A, .int .i64 B], .int .i64 p, v] w fun e w' => e = .returned (.bool true) ∧ Below w.heap.size w w' := by
  obtain ⟨hC, hg, hp, ha, hb, hon⟩ := h
  obtain ⟨hA, hB⟩ := curve_of hC
  have H1 := Lib.hid (fun W => c_fmSmall A B p hC hg hp.2 W)
  have H2 := Lib.hid (fun (u : Value) (W : World) (r : RdL W u [a, b]) => c_fmOn A B p a b hA hB hp ha hb hon u W r)
  clear hC hg hon
  have hb0 : Below w.heap.size w (w.alloc (.cells #[.int .i64 A, .int .i64 B] 24)) := (Below.refl _ _).alloc (Nat.le_refl _) _
  have kC := Blk.new w #[.int .i64 A, .int .i64 B] 24
  have hsz := hb0.size
  have js := rs.below hb0
  go_enter Tryz.func59, Tryz.ntmps59
  go_upto_region 1 with (fail)
  generalize w.alloc _ = W at *
  have kC0 : (W).cell? ⟨w.heap.size, 0, none⟩ = some (.int .i64 A) := kC.cell 0; have kC1 : (W).cell? ⟨w.heap.size, 1, none⟩ = some (.int .i64 B) := kC.cell 1; have kCl : w.heap.size < (W).heap.size := kC.lt
  go_wp2_with fail
  refine (H1.out _).mono ?_
  rintro e w1 ⟨rfl, hb1⟩
  have kD := kC.next hb1
  have js1 := js.below hb1
  have hbb := below_step hb1 hsz hb0
  clear kC0 kC1 kCl
  have kD0 : (w1).cell? ⟨w.heap.size, 0, none⟩ = some (.int .i64 A) := kD.cell 0; have kD1 : (w1).cell? ⟨w.heap.size, 1, none⟩ = some (.int .i64 B) := kD.cell 1; have kDl : w.heap.size < (w1).heap.size := kD.lt
  go_wp2_with fail
  refine (H2.out _ _ js1).mono ?_
  rintro e w2 ⟨rfl, hb2⟩
  have hbc := below_step hb2 hbb.size hbb
  go_wp2
  go_ret
  exact ⟨rfl, hbc⟩
/-- a list, and that all is well -/
def AddT (L : List Int) (w : World) (e : Ending) (w' : World) : Prop := ∃ v', e = .returned (.tuple #[v', .bool true]) ∧ RdL w' v' L ∧ Below w.heap.size w w'
set_option maxHeartbeats 1000000 in
theorem c_sTimesModulo (A B p n a b : Int) (h : OnP A B p a b) (hn : 1 ≤ n ∧ n ≤ 12) (v : Value) (w : World) (rs : RdL w v [a, b]) :
    Calls Tryz.prog 24 #[.agg #[.int .i64 A, .int .i64 B], .int .i64 p, .int .i64 n, v] w (AddT (ptL (fmT (fmS A p) 5 n none (some (a, b)))) w) := by
  have H1 := Lib.hid (fun (u : Value) (W : World) (r : RdL W u [a, b]) => c_fmAsked A B p a b h u W r)
  obtain ⟨hC, hg, hp, ha, hb, hon⟩ := h
  obtain ⟨hA, hB⟩ := curve_of hC
  have H2 := Lib.hid (fun (u : Value) (W : World) (r : RdL W u [a, b]) => c_fmTimes A B p n hA hp (by omega) (some (a, b)) ⟨ha, hb⟩ u W r)
  have iN : inB n (-1000000000) 1000000000 = true := inB_in (by omega)
  have H3 := Lib.hid (fun W => (c_l1In n (-1000000000) 1000000000 W).mono fun e w' (h : _ ∧ _) => (⟨h.1.trans (by rw [iN]), h.2⟩ : e = .returned (.bool true) ∧ W = w'))
  have hlt : ¬ n < 0 := by omega
  clear hC hg hon iN
  generalize ptL (fmT (fmS A p) 5 n none (some (a, b))) = T at *
  have hb0 : Below w.heap.size w (w.alloc (.cells #[.int .i64 A, .int .i64 B] 24)) := (Below.refl _ _).alloc (Nat.le_refl _) _
  have kC := Blk.new w #[.int .i64 A, .int .i64 B] 24
  have hsz := hb0.size
  have js := rs.below hb0
  go_enter Tryz.func24, Tryz.ntmps24
  go_upto_region 1 with (fail)
  generalize w.alloc _ = W at *
  have kC0 : (W).cell? ⟨w.heap.size, 0, none⟩ = some (.int .i64 A) := kC.cell 0; have kC1 : (W).cell? ⟨w.heap.size, 1, none⟩ = some (.int .i64 B) := kC.cell 1; have kCl : w.heap.size < (W).heap.size := kC.lt
  go_wp2_with fail
  refine (H1.out _ _ js).mono ?_
  rintro e w1 ⟨rfl, hb1⟩
  have kD := kC.next hb1
  have js1 := js.below hb1
  have hbb := below_step hb1 hsz hb0
  clear kC0 kC1 kCl
  have kD0 : (w1).cell? ⟨w.heap.size, 0, none⟩ = some (.int .i64 A) := kD.cell 0; have kD1 : (w1).cell? ⟨w.heap.size, 1, none⟩ = some (.int .i64 B) := kD.cell 1; have kDl : w.heap.size < (w1).heap.size := kD.lt
  go_wp2_with ((go_at_call 60; refine (H3.out _).mono ?_; rintro e w' ⟨rfl, rfl⟩))
  refine (H2.out _ _ js1).mono ?_
  rintro e w2 ⟨v', rfl, r2, hb2⟩
  have hbc := below_step hb2 hbb.size hbb
  go_wp2
  go_ret2
  exact ⟨_, rfl, r2, hbc⟩
set_option maxHeartbeats 1000000 in
theorem c_iTimesModulo (A B p n a b : Int) (h : OnP A B p a b) (hn : 1 ≤ n ∧ n ≤ 12) (v : Value) (w : World) (rs : RdL w v [a, b]) :
    Calls Tryz.prog 23 #[.agg #[.int .i64 A, .int .i64 B], .int .i64 p, .int .i64 n, v] w (AddT (ptL (fmT (fmI A p) 5 n none (some (a, b)))) w) := by
  obtain ⟨hC, hg, hp, ha, hb, hon⟩ := h
  obtain ⟨hA, hB⟩ := curve_of hC
  have H0 := Lib.hid (fun W => c_fieldFits A B p hC hg hp.2 W)
  have H1 := Lib.hid (fun (u : Value) (W : World) (r : RdL W u [a, b]) => c_onField A B p a b hA hB hp ha hb hon u W r)
  have H2 := Lib.hid (fun (u : Value) (W : World) (r : RdL W u [a, b]) => c_timesModulo A B p n hA hp (by omega) (some (a, b)) ⟨ha, hb⟩ u W r)
  have iN : inB n (-1000000000) 1000000000 = true := inB_in (by omega)
  have H3 := Lib.hid (fun W => (c_inside n (-1000000000) 1000000000 W).mono fun e w' (h : _ ∧ _) => (⟨h.1.trans (by rw [iN]), h.2⟩ : e = .returned (.bool true) ∧ W = w'))
  clear hC hg hon iN
  generalize ptL (fmT (fmI A p) 5 n none (some (a, b))) = T at *
  have hb0 : Below w.heap.size w (w.alloc (.cells #[.int .i64 A, .int .i64 B] 24)) := (Below.refl _ _).alloc (Nat.le_refl _) _
  have kC := Blk.new w #[.int .i64 A, .int .i64 B] 24
  have hsz := hb0.size
  have js := rs.below hb0
  go_enter Tryz.func23, Tryz.ntmps23
  go_upto_region 1 with (fail)
  generalize w.alloc _ = W at *
  have kC0 : (W).cell? ⟨w.heap.size, 0, none⟩ = some (.int .i64 A) := kC.cell 0; have kC1 : (W).cell? ⟨w.heap.size, 1, none⟩ = some (.int .i64 B) := kC.cell 1; have kCl : w.heap.size < (W).heap.size := kC.lt
  go_wp2_with fail
  refine (H0.out _).mono ?_
  rintro e w1 ⟨rfl, hb1⟩
  have kD := kC.next hb1
  have js1 := js.below hb1
  have hbb := below_step hb1 hsz hb0
  clear kC0 kC1 kCl
  have kD0 : (w1).cell? ⟨w.heap.size, 0, none⟩ = some (.int .i64 A) := kD.cell 0; have kD1 : (w1).cell? ⟨w.heap.size, 1, none⟩ = some (.int .i64 B) := kD.cell 1; have kDl : w.heap.size < (w1).heap.size := kD.lt
  go_wp2_with fail
  refine (H1.out _ _ js1).mono ?_
  rintro e w2 ⟨rfl, hb2⟩
  have kE := kD.next hb2
  have js2 := js1.below hb2
  have hbc := below_step hb2 hbb.size hbb
  clear kD0 kD1 kDl
  have kE0 : (w2).cell? ⟨w.heap.size, 0, none⟩ = some (.int .i64 A) := kE.cell 0; have kE1 : (w2).cell? ⟨w.heap.size, 1, none⟩ = some (.int .i64 B) := kE.cell 1; have kEl : w.heap.size < (w2).heap.size := kE.lt
  go_wp2_with ((go_at_call 27; refine (H3.out _).mono ?_; rintro e w' ⟨rfl, rfl⟩))
  refine (H2.out _ _ js2).mono ?_
  rintro e w3 ⟨v', rfl, r3, hb3⟩
  have hbd := below_step hb3 hbc.size hbc
  go_wp2
  go_ret2
  exact ⟨_, rfl, r3, hbd⟩
end Go.Proofs.YtgjdgcmmlfmhmaaGreatDoor

/- FmL -/
namespace Go.Proofs.YtgjdgcmmlfmhmaaGreatDoor
open Go.RowKit

theorem Tryz.infoLL : (Tryz.prog.info? 29).map (fun i => (i.zero, i.size, i.bytes)) = some (some (.slice none 0 0), 1, 24) := by kernel_rfl
/-- a list's cell: no numbers, or a block of its own with two of them -/
def PtC (w : World) (u : Value) : Option (Int × Int) → Prop
  | none => ∃ a c, u = .slice a 0 c
  | some s => ∃ g, u = .slice (some ⟨g, 0, none⟩) 2 2 ∧ Blk g #[.int .i64 s.1, .int .i64 s.2] 3 w
theorem PtC.below {w w1 : World} {u : Value} {s : Option (Int × Int)} (h : PtC w u s) (hb : Below w.heap.size w w1) : PtC w1 u s := by
  cases s with
  | none => exact h
  | some s => obtain ⟨g, h1, h2⟩ := h; exact ⟨g, h1, h2.next hb⟩
theorem PtC.over {w w1 : World} {u : Value} {s : Option (Int × Int)} {ex : List Nat} (h : PtC w u s) (ho : Over ex w w1) (hx : ∀ g ∈ ex, ∃ cs x, w.heap[g]? = some (.cells cs 29 x)) : PtC w1 u s := by
  cases s with
  | none => exact h
  | some s =>
    obtain ⟨g, h1, h2⟩ := h
    refine ⟨g, h1, h2.over ho (fun hm => ?_)⟩
    obtain ⟨cs, x, h3⟩ := hx g hm
    unfold Blk at h2
    rw [h2] at h3
    injection h3 with h3
    injection h3 with _ h4 _
    exact absurd h4 (by decide)
theorem PtC.rd {w : World} {u : Value} {s : Option (Int × Int)} (h : PtC w u s) : RdL w u (ptL s) := by
  cases s with
  | none => obtain ⟨a, c, rfl⟩ := h; exact ⟨a, c, rfl, Nat.zero_le _, fun i hi => by simp [ptL] at hi⟩
  | some s => obtain ⟨g, rfl, h2⟩ := h; exact RdL.ofBlk h2
theorem PtC.one {w : World} {u : Value} {s : Option (Int × Int)} (h : PtC w u s) : u.oneCell' = true := by
  cases s with
  | none => obtain ⟨a, c, rfl⟩ := h; rfl
  | some s => obtain ⟨g, rfl, h2⟩ := h; rfl
/-- a row of points of one's own -/
def OwnsPt (w : World) (base : Nat) (v : Value) (L : List (Option (Int × Int))) : Prop := ∃ us : List Value, w.ownsRow base 29 1 v us.length us ∧ us.length = L.length ∧ ∀ i (h : i < us.length) (h' : i < L.length), PtC w us[i] L[i]
theorem OwnsPt.below {w w1 : World} {base : Nat} {v : Value} {L : List (Option (Int × Int))} (h : OwnsPt w base v L) (hb : Below w.heap.size w w1) : OwnsPt w1 base v L := by
  obtain ⟨us, h1, h2, h3⟩ := h
  refine ⟨us, ⟨h1.1, ?_⟩, h2, fun i a b => (h3 i a b).below hb⟩
  rcases h1.2 with h0 | ⟨g, cap, cur, hv, hg, hh, r⟩
  · exact .inl h0
  · exact .inr ⟨g, cap, cur, hv, hg, (hb.block g (Array.getElem?_eq_some_iff.1 hh).1).trans hh, r⟩
theorem OwnsPt.lt {w : World} {base : Nat} {v : Value} {L : List (Option (Int × Int))} (h : OwnsPt w base v L) : ∀ g, v.ownBlock = some g → base ≤ g ∧ g < w.heap.size := by
  obtain ⟨us, h1, _⟩ := h
  exact World.ownsRow.lt h1
/-- a list of points, to be read -/
def RdPs (w : World) (v : Value) (L : List (Option (Int × Int))) : Prop := ∃ (a : Option Addr) (cap : Nat), v = .slice a L.length cap ∧ ∀ i (h : i < L.length), ∃ g u, a = some ⟨g, 0, none⟩ ∧ w.cell? ⟨g, i, none⟩ = some u ∧ g < w.heap.size ∧ RdL w u (ptL L[i])
theorem OwnsPt.rd {w : World} {base : Nat} {v : Value} {L : List (Option (Int × Int))} (h : OwnsPt w base v L) : RdPs w v L := by
  obtain ⟨us, h1, h2, h3⟩ := h
  rcases h1.2 with ⟨hv, hn⟩ | ⟨g, cap, cur, hv, hg, hh, hnc, hcm, hcs, ht⟩
  · refine ⟨none, 0, ?_, fun i hi => by omega⟩
    rw [hv, ← h2, hn]
  · refine ⟨some ⟨g, 0, none⟩, cap, by rw [hv, h2], fun i hi => ⟨g, us[i], rfl, ?_, (Array.getElem?_eq_some_iff.1 hh).1, (h3 i (by omega) hi).rd⟩⟩
    have h4 : (cur.toList.take (us.length * 1))[i]? = cur.toList[i]? := List.getElem?_take_of_lt (by omega)
    rw [ht, List.getElem?_eq_getElem (show i < us.length by omega)] at h4
    rw [Array.getElem?_toList] at h4
    show (match w.heap[g]? with | some (.cells cs _ _) => _ | _ => _) = _
    rw [hh]; exact h4.symm
theorem RdPs.below {w w1 : World} {v : Value} {L : List (Option (Int × Int))} (h : RdPs w v L) (hb : Below w.heap.size w w1) : RdPs w1 v L := by
  obtain ⟨a, cap, hv, hc⟩ := h
  refine ⟨a, cap, hv, fun i hi => ?_⟩
  obtain ⟨g, u, h1, h2, h3, h4⟩ := hc i hi
  exact ⟨g, u, h1, (hb.cell (p := ⟨g, i, none⟩) h3).trans h2, Nat.lt_of_lt_of_le h3 hb.size, h4.below hb⟩
/-- a point appended -/
theorem wpList_appP {ops : Array Oper} {rest : List Oper} {o : Oper} {a : Act} {Q : Exit → Act → World → Prop} {wr : World} {y : Value} {q : Int × Int} (hgd : o.guard = none) (s x : Operand)
    (ho : o.op = .call { callee := .builtin .append, args := #[s, x], argTypes := #[47, 47] })
    (base : Nat) (v : Value) (L : List (Option (Int × Int))) (hs : a.eval s = v) (hown : OwnsPt wr base v L) (hx : a.eval x = .slice (some ⟨wr.heap.size, 0, none⟩) 1 1)
    (hy : PtC wr y (some q)) (hlen : L.length < 1000000000) (hbase : base ≤ wr.heap.size)
    (h : ∀ v' w1, OwnsPt w1 base v' (L ++ [some q]) → Over v.ownBlock.toList wr w1 → wpList Tryz.prog ops Q rest (a.put o.dst v') w1) :
    wpList Tryz.prog ops Q (o :: rest) a (wr.alloc (.cells #[y] 29)) := by
  obtain ⟨i0, hi, hz0, hz1, hz2⟩ := info_parts Tryz.infoLL
  obtain ⟨us, h1, h2, h3⟩ := hown
  have hy1 := hy.one
  refine wpList_append_own _ hgd s x 47 ho base 29 i0 (.slice none 0 0) 1 24 Tryz.underlying47 hi hz0 hz1 hz2 rfl (by decide) v us.length us hs (World.ownsRow.alloc h1 _) ⟨wr.heap.size, 0, none⟩ 1 1 [y] hx rfl ?_ ?_ ?_ ?_ ?_ ?_
  · intro j u hj
    match j, hj with
    | 0, hj => simp at hj; subst hj; simp [Addr.add]
  · intro u hu; simp at hu; subst hu; exact hy1
  · unfold maxLen; omega
  · omega
  · simp; omega
  · intro v' w1 hown' hgrow _
    have ha := (Below.refl wr.heap.size wr).alloc (Nat.le_refl _) (.cells #[y] 29)
    have hov : Over v.ownBlock.toList wr w1 := by
      refine ⟨hgrow.os.trans ha.os, hgrow.tape.trans ha.tape, hgrow.output.trans ha.output, Nat.le_trans ha.size hgrow.size, fun k hk hn => ?_⟩
      refine (hgrow.block k (Nat.lt_of_lt_of_le hk ha.size) ?_).trans (ha.block k hk)
      cases hv : v.ownBlock with
      | none => simp
      | some g => rw [hv] at hn; simpa using hn
    have hex : ∀ g ∈ v.ownBlock.toList, ∃ cs x, wr.heap[g]? = some (.cells cs 29 x) := by
      intro g hg
      rcases h1.2 with ⟨hv, hn⟩ | ⟨g', cap, cur, hv, hg', hh, _⟩
      · rw [hv] at hg; simp [Value.ownBlock] at hg
      · rw [hv] at hg
        have : g = g' := by simpa [Value.ownBlock] using hg
        subst this
        exact ⟨_, _, hh⟩
    refine h v' w1 ⟨us ++ [y], by simpa using hown', by simp [h2], fun i a b => ?_⟩ hov
    by_cases hi : i < us.length
    · rw [List.getElem_append_left hi, List.getElem_append_left (by omega)]
      exact (h3 i hi (by omega)).over hov hex
    · have e : i = us.length := by simp at a; omega
      subst e
      simp only [List.getElem_append_right (Nat.le_refl us.length), Nat.sub_self, List.getElem_cons_zero]
      rw [List.getElem_append_right (by omega)]
      simp only [h2, Nat.sub_self, List.getElem_cons_zero]
      exact hy.over hov hex
/-- the list with infinity alone -/
theorem OwnsPt.start (w : World) (a : Option Addr) (c : Nat) : OwnsPt (w.alloc (.cells #[.slice a 0 c] 29)) w.heap.size (.slice (some ⟨w.heap.size, 0, none⟩) 1 1) [none] := by
  refine ⟨[.slice a 0 c], ⟨rfl, .inr ⟨w.heap.size, 1, _, rfl, Nat.le_refl _, Blk.new w _ _, Nat.le_refl _, by unfold maxLen; omega, rfl, rfl⟩⟩, rfl, fun i hi _ => ?_⟩
  have : i = 0 := by simp at hi; omega
  subst this
  exact ⟨a, c, rfl⟩
theorem OwnsPt.le {w : World} {base base' : Nat} {v : Value} {L : List (Option (Int × Int))} (h : OwnsPt w base v L) (hb : base' ≤ base) : OwnsPt w base' v L := by
  obtain ⟨us, h1, h2, h3⟩ := h
  refine ⟨us, ⟨h1.1, ?_⟩, h2, h3⟩
  rcases h1.2 with h0 | ⟨g, cap, cur, hv, hg, r⟩
  · exact .inl h0
  · exact .inr ⟨g, cap, cur, hv, Nat.le_trans hb hg, r⟩
theorem pt_len {A B p : Int} (hp : 5 ≤ p ∧ p ≤ 31) {k j : Nat} (hk : (k : Int) ≤ p) (hj : (j : Int) ≤ p) (f x : Int) : (fmPt A B p k ++ rowPt f p x j).length < 1000000 := by
  have h1 := fmPt_len A B p k
  have h2 := rowPt_len f p x j
  have h3 := Nat.mul_le_mul (show k ≤ 31 by omega) (show p.toNat ≤ 31 by omega)
  rw [List.length_append]
  omega
theorem rowPt_yes {f p x : Int} {j : Nat} (h : (j : Int) * j % p = f) : rowPt f p x (j + 1) = rowPt f p x j ++ [some (x, (j : Int))] := by rw [rowPt, if_pos h]
theorem rowPt_no {f p x : Int} {j : Nat} (h : ¬ (j : Int) * j % p = f) : rowPt f p x (j + 1) = rowPt f p x j := by rw [rowPt, if_neg h, List.append_nil]
/-- points, read -/
def PtsP (L : List (Option (Int × Int))) (w : World) (e : Ending) (w' : World) : Prop := ∃ v, e = .returned v ∧ RdPs w' v L ∧ Below w.heap.size w w'
set_option maxHeartbeats 2000000 in
theorem c_fmPoints (A B p : Int) (hA : -1000 ≤ A ∧ A ≤ 1000) (hB : -10000 ≤ B ∧ B ≤ 10000) (hp : 5 ≤ p ∧ p ≤ 31) (w : World) :
    Calls Tryz.prog 55 #[.agg #[.int .i64 A, .int .i64 B], .int .i64 p] w (PtsP (fmPt A B p p.toNat) w) := by
  have kC := ((Blk.new w #[.int .i64 A, .int .i64 B] 24).alloc (.cells #[] 3)).alloc (.cells #[.slice (some ⟨w.heap.size + 1, 0, none⟩) 0 0] 29)
  have hb0 : Below w.heap.size w (((w.alloc (.cells #[.int .i64 A, .int .i64 B] 24)).alloc (.cells #[] 3)).alloc (.cells #[.slice (some ⟨w.heap.size + 1, 0, none⟩) 0 0] 29)) := (((Below.refl _ _).alloc (Nat.le_refl _) _).alloc (by simp) _).alloc (by simp; omega) _
  have ho0 := (OwnsPt.start ((w.alloc (.cells #[.int .i64 A, .int .i64 B] 24)).alloc (.cells #[] 3)) (some ⟨w.heap.size + 1, 0, none⟩) 0).le (show w.heap.size + 1 ≤ _ by simp)
  simp only [World.size_alloc] at ho0
  have hp0 : (p == 0) = false := by simp; omega
  generalize hT : fmPt A B p p.toNat = T
  go_enter Tryz.func55, Tryz.ntmps55
  go_upto_region 2 with (fail)
  generalize ((w.alloc _).alloc _).alloc _ = W at *
  generalize hr : w.heap.size = r0 at *
  have hR : Hid (w.heap.size = r0) := hr
  clear hr
  go_wp2
  go_loopw [5, 6] (fun v xv wr => ∃ k : Nat, (k : Int) ≤ p ∧ xv = .int .i64 k ∧ OwnsPt wr (r0 + 1) v (fmPt A B p k) ∧ Blk r0 #[.int .i64 A, .int .i64 B] 24 wr ∧ Below r0 w wr) (fun _ xv _ => (p - intOf xv).toNat)
  case atStart => exact ⟨0, by omega, rfl, ho0, kC, hb0⟩
  case round =>
    clear kC hb0 ho0
    obtain ⟨k, hk, rfl, ho, kC, hb⟩ := hrel
    have lC := kC.lt
    by_cases hlt : (k : Int) < p
    · have kC0 : (wr).cell? ⟨r0, 0, none⟩ = some (.int .i64 A) := kC.cell 0; have kC1 : (wr).cell? ⟨r0, 1, none⟩ = some (.int .i64 B) := kC.cell 1; have kCl : r0 < (wr).heap.size := kC.lt
      go_wp2_with fail
      refine (c_fmValue A B p k hA hB (by omega) (by omega) _).mono ?_
      rintro e w1 ⟨rfl, hb1⟩
      replace kC := kC.next hb1
      replace ho := ho.below hb1
      replace hb := below_step hb1 (by omega) hb
      clear kC0 kC1 kCl lC hb1
      have HQ : Hid (fmPt A B p (k + 1) = fmPt A B p k ++ rowPt (fV A B k % p) p k p.toNat) := rfl
      generalize fV A B k % p = nV at *
      go_wp2
      go_loopw [5, 8] (fun v yv wr => ∃ j : Nat, (j : Int) ≤ p ∧ yv = .int .i64 j ∧ OwnsPt wr (r0 + 1) v (fmPt A B p k ++ rowPt nV p k j) ∧ Blk r0 #[.int .i64 A, .int .i64 B] 24 wr ∧ Below r0 w wr) (fun _ yv _ => (p - intOf yv).toNat)
      case atStart => exact ⟨0, by omega, rfl, by rw [rowPt, List.append_nil]; exact ho, kC, hb⟩
      case round =>
        clear kC hb ho
        obtain ⟨j, hj, rfl, ho, kC, hb⟩ := hrel
        have lC := kC.lt
        by_cases hlt2 : (j : Int) < p
        · have mb := mulb (x := (j : Int)) (y := j) 31 31 (by omega) (by omega)
          have mb2 := Int.mul_nonneg (show (0 : Int) ≤ j by omega) (show (0 : Int) ≤ j by omega)
          by_cases hq : (j : Int) * j % p = nV
          · have hb' : ((j : Int) * j % p == nV) = true := by simp [hq]
            have hal := (Below.refl wr.heap.size wr).alloc (Nat.le_refl _) (.cells #[.int .i64 (k : Int), .int .i64 (j : Int)] 3)
            have hlen := pt_len (A := A) (B := B) hp hk hj nV k
            have ho2 := ho.below hal
            have kC2 := kC.next hal
            have hb2 := below_step hal (by omega) hb
            have hY : Hid (rowPt nV p k (j + 1) = rowPt nV p k j ++ [some ((k : Int), (j : Int))]) := rowPt_yes hq
            go_wp2_with (at_builtin; refine wpList_appP (wr := wr.alloc (.cells #[.int .i64 (k : Int), .int .i64 (j : Int)] 3)) (q := ((k : Int), (j : Int))) rfl _ _ rfl (r0 + 1) _ _ rfl ho2 (by rw [World.size_alloc]; rfl) ⟨_, rfl, Blk.new _ _ _⟩ (by omega) (by simp; omega) ?_; intro v' w1 ho1 hO1)
            have hlo := ho2.lt
            have kC3 := kC2.over hO1 (fun hm => by have := (hlo r0 (by have h7 : r0 ∈ u5.ownBlock.toList := hm; simpa using h7)).1; omega)
            have hb3 := hO1.belowGe hb2 (by simp; omega) (fun g hg => by have := (hlo g (by have h7 : g ∈ u5.ownBlock.toList := hg; simpa using h7)).1; omega)
            rw [List.append_assoc, ← hY.out] at ho1
            clear hY hb2 kC2 ho2 hal
            go_wp2
            go_roundw
            case rel => exact ⟨j + 1, by omega, by go_num, ho1, kC3, hb3⟩
            case measure => simp [intOf]; omega
          · have hb' : ((j : Int) * j % p == nV) = false := by simp [hq]
            have ho1 := ho
            rw [← rowPt_no hq] at ho1
            go_wp2
            go_roundw
            case rel => exact ⟨j + 1, by omega, by go_num, ho1, kC, hb⟩
            case measure => simp [intOf]; omega
        · obtain rfl : j = p.toNat := by omega
          rw [← HQ.out] at ho
          go_wp2
          go_roundw
          case rel => exact ⟨k + 1, by omega, by go_num, ho, kC, hb⟩
          case measure => simp [intOf]; omega
    · obtain rfl : k = p.toNat := by omega
      rw [hT] at ho
      have hrd := ho.rd
      have hb9 : Below w.heap.size w wr := by rw [hR.out]; exact hb
      go_wp2
      go_ret
      exact ⟨_, rfl, hrd, hb9⟩
theorem c_sPointsModulo (A B p : Int) (hC : curveB A B = true) (hg : goodP A B p = true) (hp : 5 ≤ p ∧ p ≤ 31) (w : World) :
    Calls Tryz.prog 22 #[.agg #[.int .i64 A, .int .i64 B], .int .i64 p] w fun e w' => ∃ v, e = .returned (.tuple #[v, .bool true]) ∧ RdPs w' v (fmPt A B p p.toNat) ∧ Below w.heap.size w w' := by
  obtain ⟨hA, hB⟩ := curve_of hC
  have H1 := Lib.hid (fun W => c_fmSmall A B p hC hg hp.2 W)
  have H2 := Lib.hid (fun W => c_fmPoints A B p hA hB hp W)
  clear hC hg
  generalize fmPt A B p p.toNat = T at *
  have hb0 : Below w.heap.size w (w.alloc (.cells #[.int .i64 A, .int .i64 B] 24)) := (Below.refl _ _).alloc (Nat.le_refl _) _
  have kC := Blk.new w #[.int .i64 A, .int .i64 B] 24
  have hsz := hb0.size
  go_enter Tryz.func22, Tryz.ntmps22
  go_upto_region 1 with (fail)
  generalize w.alloc _ = W at *
  have kC0 : (W).cell? ⟨w.heap.size, 0, none⟩ = some (.int .i64 A) := kC.cell 0; have kC1 : (W).cell? ⟨w.heap.size, 1, none⟩ = some (.int .i64 B) := kC.cell 1; have kCl : w.heap.size < (W).heap.size := kC.lt
  go_wp2_with fail
  refine (H1.out _).mono ?_
  rintro e w1 ⟨rfl, hb1⟩
  have kD := kC.next hb1
  have hbb := below_step hb1 hsz hb0
  clear kC0 kC1 kCl
  have kD0 : (w1).cell? ⟨w.heap.size, 0, none⟩ = some (.int .i64 A) := kD.cell 0; have kD1 : (w1).cell? ⟨w.heap.size, 1, none⟩ = some (.int .i64 B) := kD.cell 1; have kDl : w.heap.size < (w1).heap.size := kD.lt
  go_wp2_with fail
  refine (H2.out _).mono ?_
  rintro e w2 ⟨v, rfl, r2, hb2⟩
  have hbc := below_step hb2 hbb.size hbb
  go_wp2
  go_ret2
  exact ⟨_, rfl, r2, hbc⟩
end Go.Proofs.YtgjdgcmmlfmhmaaGreatDoor
