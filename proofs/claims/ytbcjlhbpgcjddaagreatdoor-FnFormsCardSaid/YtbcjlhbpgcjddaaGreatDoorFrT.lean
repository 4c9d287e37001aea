/- Walks: the text of a fraction. -/
import Derived.Test.YtbcjlhbpgcjddaaGreatDoorNumT
import Derived.Test.YtbcjlhbpgcjddaaGreatDoorFrac
namespace Go.Proofs.YtbcjlhbpgcjddaaGreatDoor
open Go.RowKit

def frS (a b : Int) : ByteArray := if b = 1 then intS a else intS a ++ ⟨#[47]⟩ ++ intS b
theorem frS_size (a b : Int) (h : frOk a b = true) : (frS a b).size ≤ 50 := by
  have h1 := frOk_of h
  have z1 := intS_size a (by omega)
  have z2 := intS_size b (by omega)
  have e1 : (⟨#[47]⟩ : ByteArray).size = 1 := rfl
  unfold frS
  split
  · omega
  · simp only [ByteArray.size_append]
    omega
set_option maxHeartbeats 1000000 in
set_option maxRecDepth 100000 in
theorem c_frText (a b : Int) (h : frOk a b = true) (w : World) :
    Calls Tryz.prog 56 #[.agg #[.int .i64 a, .int .i64 b]] w fun e w' => e = .returned (.string (frS a b)) ∧ Below w.heap.size w w' := by
  have h1 := frOk_of h
  have z1 := intS_size a (by omega)
  have z2 := intS_size b (by omega)
  have hF : frS a b = if b = 1 then intS a else intS a ++ ⟨#[47]⟩ ++ intS b := rfl
  have ha : ∀ w1 : World, Calls Tryz.prog 110 #[.int .i64 a] w1 fun e w' => e = .returned (.string (intS a)) ∧ Below w1.heap.size w1 w' := fun w1 => c_l1Int a (by omega) w1
  have hb : ∀ w1 : World, Calls Tryz.prog 111 #[.int .i64 b] w1 fun e w' => e = .returned (.string (intS b)) ∧ Below w1.heap.size w1 w' := fun w1 => by
    obtain ⟨u, rfl⟩ := Int.eq_ofNat_of_zero_le (show 0 ≤ b by omega)
    rw [intS_pos]
    exact c_l1Num u u (Nat.le_refl _) (by omega) w1
  rw [hF]
  generalize intS a = Sa at *
  generalize intS b = Sb at *
  clear hF
  have HA := Lib.hid ha
  have HB := Lib.hid hb
  have e1 : (⟨#[47]⟩ : ByteArray).size = 1 := rfl
  have f1 : (Sa ++ ⟨#[47]⟩ : ByteArray).size = Sa.size + 1 := by rw [ByteArray.size_append]; rfl
  have HX := fun w => run_string_add_sum (P := Tryz.prog) w Sa ⟨#[47]⟩ (by omega)
  have HY := fun w => run_string_add_sum (P := Tryz.prog) w (Sa ++ ⟨#[47]⟩) Sb (by omega)
  clear ha hb f1 e1
  have kF := Blk.new w #[.int .i64 a, .int .i64 b] 31
  have hB : Below w.heap.size w (w.alloc (.cells #[.int .i64 a, .int .i64 b] 31)) := by (repeat' (first | (with_reducible exact Below.refl _ _) | (with_reducible refine below_step (by assumption) ?_ ?_) | (with_reducible refine Below.alloc ?_ ?_ _) | (with_reducible refine Below.setCell ?_ ?_ _) | (with_reducible refine below_drewN ?_ _) | (with_reducible refine Below.drew ?_) | omega | (simp; omega) | (simp; done)))
  by_cases hq : b = 1
  · subst hq
    rw [if_pos rfl]
    go_enter Tryz.func56, Tryz.ntmps56
    go_wp2_with fail
    generalize w.alloc _ = W at *
    have kF0 : (W).cell? ⟨w.heap.size, 0, none⟩ = some (.int .i64 a) := kF.cell 0; have kF1 : (W).cell? ⟨w.heap.size, 1, none⟩ = some (.int .i64 1) := kF.cell 1; have kFl : w.heap.size < (W).heap.size := kF.lt
    go_wp2_with fail
    refine (HA.out _).mono ?_
    rintro e w1 ⟨rfl, hb1⟩
    go_wp2
    go_ret
    exact ⟨rfl, below_step hb1 hB.size hB⟩
  · rw [if_neg hq]
    have hq' : (b == 1) = false := by simpa using hq
    go_enter Tryz.func56, Tryz.ntmps56
    go_wp2_with fail
    generalize w.alloc _ = W at *
    have kF0 : (W).cell? ⟨w.heap.size, 0, none⟩ = some (.int .i64 a) := kF.cell 0; have kF1 : (W).cell? ⟨w.heap.size, 1, none⟩ = some (.int .i64 b) := kF.cell 1; have kFl : w.heap.size < (W).heap.size := kF.lt
    go_wp2
    (refine wp_region_clq (by kernel_rfl) (by kernel_rfl) ?_; (repeat (go_big_quiet_step ((first | (go_at_call 110; exact Calls.quiet_cls Closed.true _ (HA.out _)) | (go_at_call 111; exact Calls.quiet_cls Closed.true _ (HB.out _)))))); refine wpQuiet_nil ?_; intro w1 hb1; obtain ⟨hc1, hf1⟩ := bcell hb1; have hz1 := hb1.size; (try simp only [World.size_alloc] at hz1))
    go_wp2
    go_ret
    exact ⟨rfl, below_step hb1 hB.size hB⟩
set_option maxHeartbeats 1000000 in
set_option maxRecDepth 100000 in
theorem c_fractionText (a b : Int) (h : frOk a b = true) (w : World) (ht : TabI w) :
    Calls Tryz.prog 109 #[.agg #[.int .i64 a, .int .i64 b]] w fun e w' => e = .returned (.string (frS a b)) ∧ Below w.heap.size w w' := by
  have h1 := frOk_of h
  have z1 := intS_size a (by omega)
  have z2 := intS_size b (by omega)
  have hF : frS a b = if b = 1 then intS a else intS a ++ ⟨#[47]⟩ ++ intS b := rfl
  have ha : ∀ w1 : World, TabI w1 → Calls Tryz.prog 124 #[.int .i64 a] w1 fun e w' => e = .returned (.string (intS a)) ∧ Below w1.heap.size w1 w' := fun w1 ht => c_itoa a (by omega) (by omega) w1 ht
  have hb : ∀ w1 : World, TabI w1 → Calls Tryz.prog 124 #[.int .i64 b] w1 fun e w' => e = .returned (.string (intS b)) ∧ Below w1.heap.size w1 w' := fun w1 ht => c_itoa b (by omega) (by omega) w1 ht
  rw [hF]
  generalize intS a = Sa at *
  generalize intS b = Sb at *
  clear hF
  have HA := Lib.hid ha
  have HB := Lib.hid hb
  have e1 : (⟨#[47]⟩ : ByteArray).size = 1 := rfl
  have f1 : (Sa ++ ⟨#[47]⟩ : ByteArray).size = Sa.size + 1 := by rw [ByteArray.size_append]; rfl
  have HX := fun w => run_string_add_sum (P := Tryz.prog) w Sa ⟨#[47]⟩ (by omega)
  have HY := fun w => run_string_add_sum (P := Tryz.prog) w (Sa ++ ⟨#[47]⟩) Sb (by omega)
  clear ha hb f1 e1
  have kF := Blk.new w #[.int .i64 a, .int .i64 b] 31
  have hB : Below w.heap.size w (w.alloc (.cells #[.int .i64 a, .int .i64 b] 31)) := by (repeat' (first | (with_reducible exact Below.refl _ _) | (with_reducible refine below_step (by assumption) ?_ ?_) | (with_reducible refine Below.alloc ?_ ?_ _) | (with_reducible refine Below.setCell ?_ ?_ _) | (with_reducible refine below_drewN ?_ _) | (with_reducible refine Below.drew ?_) | omega | (simp; omega) | (simp; done)))
  have HW := Lib.hid (ht.below hB)
  clear ht
  by_cases hq : b = 1
  · subst hq
    rw [if_pos rfl]
    go_enter Tryz.func109, Tryz.ntmps109
    go_wp2_with fail
    generalize w.alloc _ = W at *
    have kF0 : (W).cell? ⟨w.heap.size, 0, none⟩ = some (.int .i64 a) := kF.cell 0; have kF1 : (W).cell? ⟨w.heap.size, 1, none⟩ = some (.int .i64 1) := kF.cell 1; have kFl : w.heap.size < (W).heap.size := kF.lt
    go_wp2_with fail
    refine (HA.out _ (HW.out)).mono ?_
    rintro e w1 ⟨rfl, hb1⟩
    go_wp2
    go_ret
    exact ⟨rfl, below_step hb1 hB.size hB⟩
  · rw [if_neg hq]
    have hq' : (b == 1) = false := by simpa using hq
    go_enter Tryz.func109, Tryz.ntmps109
    go_wp2_with fail
    generalize w.alloc _ = W at *
    have kF0 : (W).cell? ⟨w.heap.size, 0, none⟩ = some (.int .i64 a) := kF.cell 0; have kF1 : (W).cell? ⟨w.heap.size, 1, none⟩ = some (.int .i64 b) := kF.cell 1; have kFl : w.heap.size < (W).heap.size := kF.lt
    go_wp2
    (refine wp_region_clq (by kernel_rfl) (by kernel_rfl) ?_; (repeat (go_big_quiet_step ((first | (go_at_call 124; exact Calls.quiet_cls Closed.true _ (HA.out _ (HW.out.below (Cls.over _).below))) | (go_at_call 124; exact Calls.quiet_cls Closed.true _ (HB.out _ (HW.out.below (Cls.over _).below))))))); refine wpQuiet_nil ?_; intro w1 hb1; obtain ⟨hc1, hf1⟩ := bcell hb1; have hz1 := hb1.size; (try simp only [World.size_alloc] at hz1))
    go_wp2
    go_ret
    exact ⟨rfl, below_step hb1 hB.size hB⟩
end Go.Proofs.YtbcjlhbpgcjddaaGreatDoor
