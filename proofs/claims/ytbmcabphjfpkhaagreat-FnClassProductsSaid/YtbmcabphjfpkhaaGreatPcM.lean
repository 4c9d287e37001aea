/- Walks: two-curves (isTwoCurve, tcGood) and their sides (side, dsSide). -/
import Derived.Test.YtbmcabphjfpkhaaGreatNum
import Derived.Test.YtbmcabphjfpkhaaGreatCurve
import Derived.Test.YtbmcabphjfpkhaaGreatCls
import Derived.Deep.Cut
import Derived.BigQuiet
namespace Go.Proofs.YtbmcabphjfpkhaaGreat
open Go.RowKit

/-- is it a two-curve -/
def tgB (A B : Int) : Bool := inB A (-300) 300 && (inB B (-300) 300 && (B != 0 && A * A != 4 * B))
theorem tgB_of {A B : Int} (h : tgB A B = true) : (-300 ≤ A ∧ A ≤ 300) ∧ (-300 ≤ B ∧ B ≤ 300) ∧ B ≠ 0 ∧ A * A ≠ 4 * B := by
  unfold tgB at h
  simp only [Bool.and_eq_true, bne_iff_ne] at h
  exact ⟨inB_true h.1, inB_true h.2.1, h.2.2.1, h.2.2.2⟩
theorem c_isTwoCurve (A B : Int) (w : World) :
    Calls Tryz.prog 40 #[.agg #[.int .i64 A, .int .i64 B]] w fun e w' => e = .returned (.bool (tgB A B)) ∧ Below w.heap.size w w' := by
  cases h1 : inB A (-300) 300
  · have hg : tgB A B = false := by unfold tgB; rw [h1]; rfl
    rw [hg]
    go_enter Tryz.func40, Tryz.ntmps40
    go_wp2_with ((go_at_call 28; refine (c_inside _ _ _ _).mono ?_; rintro e w' ⟨rfl, rfl⟩))
    go_ret
    refine ⟨rfl, ?_⟩
    (repeat' (first | (with_reducible exact Below.refl _ _) | (with_reducible refine below_step (by assumption) ?_ ?_) | (with_reducible refine Below.alloc ?_ ?_ _) | (with_reducible refine Below.setCell ?_ ?_ _) | (with_reducible refine below_drewN ?_ _) | (with_reducible refine Below.drew ?_) | omega | (simp; omega) | (simp; done)))
  · cases h2 : inB B (-300) 300
    · have hg : tgB A B = false := by unfold tgB; rw [h1, h2]; rfl
      rw [hg]
      go_enter Tryz.func40, Tryz.ntmps40
      go_wp2_with ((go_at_call 28; refine (c_inside _ _ _ _).mono ?_; rintro e w' ⟨rfl, rfl⟩))
      go_ret
      refine ⟨rfl, ?_⟩
      (repeat' (first | (with_reducible exact Below.refl _ _) | (with_reducible refine below_step (by assumption) ?_ ?_) | (with_reducible refine Below.alloc ?_ ?_ _) | (with_reducible refine Below.setCell ?_ ?_ _) | (with_reducible refine below_drewN ?_ _) | (with_reducible refine Below.drew ?_) | omega | (simp; omega) | (simp; done)))
    · have hA := inB_true h1
      have hB := inB_true h2
      have m1 := mulb (x := A) (y := A) 300 300 (by omega) hA
      have hg : tgB A B = (B != 0 && A * A != 4 * B) := by unfold tgB; rw [h1, h2]; rfl
      rw [hg]
      by_cases h3 : B = 0
      · have hb : (B != 0 && A * A != 4 * B) = false := by simp [h3]
        rw [hb]
        clear hb hg
        go_enter Tryz.func40, Tryz.ntmps40
        go_wp2_with ((go_at_call 28; refine (c_inside _ _ _ _).mono ?_; rintro e w' ⟨rfl, rfl⟩))
        go_ret
        refine ⟨rfl, ?_⟩
        (repeat' (first | (with_reducible exact Below.refl _ _) | (with_reducible refine below_step (by assumption) ?_ ?_) | (with_reducible refine Below.alloc ?_ ?_ _) | (with_reducible refine Below.setCell ?_ ?_ _) | (with_reducible refine below_drewN ?_ _) | (with_reducible refine Below.drew ?_) | omega | (simp; omega) | (simp; done)))
      · clear hg
        go_enter Tryz.func40, Tryz.ntmps40
        go_wp2_with ((go_at_call 28; refine (c_inside _ _ _ _).mono ?_; rintro e w' ⟨rfl, rfl⟩))
        go_ret
        refine ⟨rfl, ?_⟩
        (repeat' (first | (with_reducible exact Below.refl _ _) | (with_reducible refine below_step (by assumption) ?_ ?_) | (with_reducible refine Below.alloc ?_ ?_ _) | (with_reducible refine Below.setCell ?_ ?_ _) | (with_reducible refine below_drewN ?_ _) | (with_reducible refine Below.drew ?_) | omega | (simp; omega) | (simp; done)))
theorem c_tcGood (A B : Int) (w : World) :
    Calls Tryz.prog 42 #[.agg #[.int .i64 A, .int .i64 B]] w fun e w' => e = .returned (.bool (tgB A B)) ∧ Below w.heap.size w w' := by
  cases h1 : inB A (-300) 300
  · have hg : tgB A B = false := by unfold tgB; rw [h1]; rfl
    rw [hg]
    go_enter Tryz.func42, Tryz.ntmps42
    go_wp2_with ((go_at_call 53; refine (c_l1In _ _ _ _).mono ?_; rintro e w' ⟨rfl, rfl⟩))
    go_ret
    refine ⟨rfl, ?_⟩
    (repeat' (first | (with_reducible exact Below.refl _ _) | (with_reducible refine below_step (by assumption) ?_ ?_) | (with_reducible refine Below.alloc ?_ ?_ _) | (with_reducible refine Below.setCell ?_ ?_ _) | (with_reducible refine below_drewN ?_ _) | (with_reducible refine Below.drew ?_) | omega | (simp; omega) | (simp; done)))
  · cases h2 : inB B (-300) 300
    · have hg : tgB A B = false := by unfold tgB; rw [h1, h2]; rfl
      rw [hg]
      go_enter Tryz.func42, Tryz.ntmps42
      go_wp2_with ((go_at_call 53; refine (c_l1In _ _ _ _).mono ?_; rintro e w' ⟨rfl, rfl⟩))
      go_ret
      refine ⟨rfl, ?_⟩
      (repeat' (first | (with_reducible exact Below.refl _ _) | (with_reducible refine below_step (by assumption) ?_ ?_) | (with_reducible refine Below.alloc ?_ ?_ _) | (with_reducible refine Below.setCell ?_ ?_ _) | (with_reducible refine below_drewN ?_ _) | (with_reducible refine Below.drew ?_) | omega | (simp; omega) | (simp; done)))
    · have hA := inB_true h1
      have hB := inB_true h2
      have m1 := mulb (x := A) (y := A) 300 300 (by omega) hA
      have hg : tgB A B = (B != 0 && A * A != 4 * B) := by unfold tgB; rw [h1, h2]; rfl
      rw [hg]
      by_cases h3 : B = 0
      · have hb : (B != 0 && A * A != 4 * B) = false := by simp [h3]
        rw [hb]
        clear hb hg
        go_enter Tryz.func42, Tryz.ntmps42
        go_wp2_with ((go_at_call 53; refine (c_l1In _ _ _ _).mono ?_; rintro e w' ⟨rfl, rfl⟩))
        go_ret
        refine ⟨rfl, ?_⟩
        (repeat' (first | (with_reducible exact Below.refl _ _) | (with_reducible refine below_step (by assumption) ?_ ?_) | (with_reducible refine Below.alloc ?_ ?_ _) | (with_reducible refine Below.setCell ?_ ?_ _) | (with_reducible refine below_drewN ?_ _) | (with_reducible refine Below.drew ?_) | omega | (simp; omega) | (simp; done)))
      · clear hg
        go_enter Tryz.func42, Tryz.ntmps42
        go_wp2_with ((go_at_call 53; refine (c_l1In _ _ _ _).mono ?_; rintro e w' ⟨rfl, rfl⟩))
        go_ret
        refine ⟨rfl, ?_⟩
        (repeat' (first | (with_reducible exact Below.refl _ _) | (with_reducible refine below_step (by assumption) ?_ ?_) | (with_reducible refine Below.alloc ?_ ?_ _) | (with_reducible refine Below.setCell ?_ ?_ _) | (with_reducible refine below_drewN ?_ _) | (with_reducible refine Below.drew ?_) | omega | (simp; omega) | (simp; done)))
/-- the coefficients of a side -/
def sdA (A : Int) (dual : Bool) : Int := if dual then -2 * A else A
def sdB (A B : Int) (dual : Bool) : Int := if dual then A * A - 4 * B else B
theorem sd_facts {A B : Int} (h : tgB A B = true) (dual : Bool) : (-600 ≤ sdA A dual ∧ sdA A dual ≤ 600) ∧ (-91200 ≤ sdB A B dual ∧ sdB A B dual ≤ 91200) ∧ sdB A B dual ≠ 0 := by
  obtain ⟨hA, hB, h1, h2⟩ := tgB_of h
  have m1 := mulb (x := A) (y := A) 300 300 (by omega) hA
  have m2 : 0 ≤ A * A := by
    rcases Int.le_total 0 A with h | h
    · exact Int.mul_nonneg h h
    · exact Int.mul_nonneg_of_nonpos_of_nonpos h h
  unfold sdA sdB
  cases dual <;> simp <;> omega
theorem c_side (A B : Int) (dual : Bool) (h : tgB A B = true) (w : World) :
    Calls Tryz.prog 72 #[.agg #[.int .i64 A, .int .i64 B], .bool dual] w fun e w' => e = .returned (.tuple #[.int .i64 (sdA A dual), .int .i64 (sdB A B dual)]) ∧ Below w.heap.size w w' := by
  obtain ⟨hA, hB, _, _⟩ := tgB_of h
  have m1 := mulb (x := A) (y := A) 300 300 (by omega) hA
  unfold sdA sdB
  cases dual
  all_goals
    have kC := Blk.new w #[.int .i64 A, .int .i64 B] 38
    have hb0 : Below w.heap.size w (w.alloc (.cells #[.int .i64 A, .int .i64 B] 38)) := (Below.refl _ _).alloc (Nat.le_refl _) _
    go_enter Tryz.func72, Tryz.ntmps72
    go_upto_region 1 with (fail)
    generalize w.alloc _ = W at *
    have kC0 : (W).cell? ⟨w.heap.size, 0, none⟩ = some (.int .i64 A) := kC.cell 0; have kC1 : (W).cell? ⟨w.heap.size, 1, none⟩ = some (.int .i64 B) := kC.cell 1; have kCl : w.heap.size < (W).heap.size := kC.lt
    go_wp2
    go_quiet (fail)
    have hb1 := below_drewN hb0 nq
    go_wp2
    go_ret2
    exact ⟨by simp, hb1⟩
theorem c_tcDual (A B : Int) (h : tgB A B = true) (w : World) :
    Calls Tryz.prog 85 #[.agg #[.int .i64 A, .int .i64 B]] w fun e w' => e = .returned (.tuple #[.int .i64 (-2 * A), .int .i64 (A * A - 4 * B)]) ∧ Below w.heap.size w w' := by
  obtain ⟨hA, hB, _, _⟩ := tgB_of h
  have m1 := mulb (x := A) (y := A) 300 300 (by omega) hA
  have kC := Blk.new w #[.int .i64 A, .int .i64 B] 38
  have hb0 : Below w.heap.size w (w.alloc (.cells #[.int .i64 A, .int .i64 B] 38)) := (Below.refl _ _).alloc (Nat.le_refl _) _
  go_enter Tryz.func85, Tryz.ntmps85
  go_upto_region 1 with (fail)
  generalize w.alloc _ = W at *
  have kC0 : (W).cell? ⟨w.heap.size, 0, none⟩ = some (.int .i64 A) := kC.cell 0; have kC1 : (W).cell? ⟨w.heap.size, 1, none⟩ = some (.int .i64 B) := kC.cell 1; have kCl : w.heap.size < (W).heap.size := kC.lt
  go_quiet (fail)
  have hb1 := below_drewN hb0 nq
  go_wp2
  go_ret2
  exact ⟨rfl, hb1⟩
theorem c_dsSide (A B : Int) (dual : Bool) (h : tgB A B = true) (w : World) :
    Calls Tryz.prog 74 #[.agg #[.int .i64 A, .int .i64 B], .bool dual] w fun e w' => e = .returned (.tuple #[.int .i64 (sdA A dual), .int .i64 (sdB A B dual)]) ∧ Below w.heap.size w w' := by
  have HD := Lib.hid (fun W => c_tcDual A B h W)
  have kC := Blk.new w #[.int .i64 A, .int .i64 B] 38
  have hb0 : Below w.heap.size w (w.alloc (.cells #[.int .i64 A, .int .i64 B] 38)) := (Below.refl _ _).alloc (Nat.le_refl _) _
  have hz0 := hb0.size
  unfold sdA sdB
  cases dual
  · go_enter Tryz.func74, Tryz.ntmps74
    go_upto_region 1 with (fail)
    generalize w.alloc _ = W at *
    have kC0 : (W).cell? ⟨w.heap.size, 0, none⟩ = some (.int .i64 A) := kC.cell 0; have kC1 : (W).cell? ⟨w.heap.size, 1, none⟩ = some (.int .i64 B) := kC.cell 1; have kCl : w.heap.size < (W).heap.size := kC.lt
    go_wp2
    go_quiet (fail)
    have hb1 := below_drewN hb0 nq
    go_wp2
    go_ret2
    exact ⟨by simp, hb1⟩
  · go_enter Tryz.func74, Tryz.ntmps74
    go_upto_region 1 with (fail)
    generalize w.alloc _ = W at *
    have kC0 : (W).cell? ⟨w.heap.size, 0, none⟩ = some (.int .i64 A) := kC.cell 0; have kC1 : (W).cell? ⟨w.heap.size, 1, none⟩ = some (.int .i64 B) := kC.cell 1; have kCl : w.heap.size < (W).heap.size := kC.lt
    go_wp2_with fail
    refine (HD.out _).mono ?_
    rintro e w1 ⟨rfl, hb1⟩
    have hb2 := below_step hb1 hz0 hb0
    go_wp2
    go_ret2
    exact ⟨by simp, hb2⟩
end Go.Proofs.YtbmcabphjfpkhaaGreat
