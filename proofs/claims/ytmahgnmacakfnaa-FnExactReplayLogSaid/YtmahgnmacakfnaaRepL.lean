/- Walks: the laws of ReplayLog, CheckLog. -/
import Derived.Test.YtmahgnmacakfnaaCrv2
namespace Go.Proofs.Ytmahgnmacakfnaa
open Go.RowKit

set_option maxHeartbeats 4000000 in
theorem walk_FnExactReplayLog (A B : Int) (v : Value) (L : List (Int × Int)) (_ : (Lit.int .i64 A).wf = true) (_ : (Lit.int .i64 B).wf = true) (_ : ∀ c ∈ L, (Lit.int .i64 c.1).wf = true ∧ (Lit.int .i64 c.2).wf = true) (w : World) (o : RdP w v L) :
    Calls Try.prog 8 #[.agg #[.int .i64 A, .int .i64 B], v] w fun e w' => e = .returned (.bool true) ∧ Below w.heap.size w w' := by
  have h0 := fun W hW => c_szStepS v L W (RdP.belowN (w1 := W) o hW)
  by_cases hL : L.length ≤ 1048576
  · simp only [if_pos hL] at h0
    have hs : (0 : Int) ≤ 1048576 - L.length := by omega
    have h1 := fun base u W => c_sReplayLog base u A B L (by omega) W
    have h2 := fun base u W => c_iReplayLog base u A B L (by omega) W
    generalize rpE A B L = R at h1 h2
    generalize ccO (A, B) L = b at h1 h2
    obtain ⟨X, Y⟩ := R
    have H0 := Lib.hid h0
    have H1 := Lib.hid h1
    have H2 := Lib.hid h2
    have HO := Lib.hid o
    clear h0 h1 h2 o
    generalize hz : (1048576 - L.length : Int) = z at H0 hs
    clear hz
    cases b
    all_goals
      have kb := Blk.new w #[.int .i64 A, .int .i64 B] 31
      go_enter Try.func8, Try.ntmps8
      go_wp2_with fail
      refine (H0.out _ (by (repeat' (first | (with_reducible exact Below.refl _ _) | (with_reducible refine below_step (by assumption) ?_ ?_) | (with_reducible refine Below.alloc ?_ ?_ _) | (with_reducible refine Below.setCell ?_ ?_ _) | (with_reducible refine below_drewN ?_ _) | (with_reducible refine Below.drew ?_) | omega | (simp; omega) | (simp; done))))).mono ?_
      rintro e w' ⟨rfl, rfl⟩
      go_wp2_with fail
      refine (c_toCurve _ _ _).mono ?_
      rintro e wa ⟨rfl, hba⟩
      have kba := kb.next hba
      have bba : Below w.heap.size w wa := by have := hba.size; (repeat' (first | (with_reducible exact Below.refl _ _) | (with_reducible refine below_step (by assumption) ?_ ?_) | (with_reducible refine Below.alloc ?_ ?_ _) | (with_reducible refine Below.setCell ?_ ?_ _) | (with_reducible refine below_drewN ?_ _) | (with_reducible refine Below.drew ?_) | omega | (simp; omega) | (simp; done)))
      have hza := bba.size
      go_wp2_with fail
      refine (c_toStepS v L hL _ (RdP.belowN HO.out bba)).mono ?_
      rintro e w1 ⟨u1, rfl, a1, hb1⟩
      have kb1 := kba.next hb1
      have bb1 : Below w.heap.size w w1 := below_step hb1 bba.size bba
      go_wp2_with fail
      refine (H1.out _ _ _ a1).mono ?_
      rintro e w2 ⟨rfl, hb2⟩
      have kb2 := kb1.next hb2
      have bb2 : Below w.heap.size w w2 := below_step hb2 bb1.size bb1
      have hz2 := bb2.size
      have k1 := Blk.new w2 #[.int .i64 X, .int .i64 Y] 34
      have kb2' := kb2.alloc (.cells #[.int .i64 X, .int .i64 Y] 34)
      have bb2' : Below w.heap.size w (w2.alloc (.cells #[.int .i64 X, .int .i64 Y] 34)) := by (repeat' (first | (with_reducible exact Below.refl _ _) | (with_reducible refine below_step (by assumption) ?_ ?_) | (with_reducible refine Below.alloc ?_ ?_ _) | (with_reducible refine Below.setCell ?_ ?_ _) | (with_reducible refine below_drewN ?_ _) | (with_reducible refine Below.drew ?_) | omega | (simp; omega) | (simp; done)))
      go_wp2_with fail
      refine (c_toStepS v L hL _ (RdP.belowN HO.out bb2')).mono ?_
      rintro e w3 ⟨u3, rfl, a3, hb3⟩
      have kb3 := kb2'.next hb3
      have k13 := k1.next hb3
      have bb3 : Below w.heap.size w w3 := below_step hb3 bb2'.size bb2'
      have hz3 := bb3.size
      have kb30 : (w3).cell? ⟨w.heap.size, 0, none⟩ = some (.int .i64 A) := kb3.cell 0; have kb31 : (w3).cell? ⟨w.heap.size, 1, none⟩ = some (.int .i64 B) := kb3.cell 1; have kb3l : w.heap.size < (w3).heap.size := kb3.lt
      go_wp2_with fail
      refine (c_toCurve _ _ _).mono ?_
      rintro e w4 ⟨rfl, hb4⟩
      have k14 := k13.next hb4
      have a34 := OwnsP.below a3 hb4
      have bb4 : Below w.heap.size w w4 := below_step hb4 bb3.size bb3
      go_wp2_with fail
      refine (H2.out _ _ _ a34).mono ?_
      rintro e w5 ⟨rfl, hb5⟩
      have k15 := k14.next hb5
      have a35 := OwnsP.below a34 hb5
      have bb5 : Below w.heap.size w w5 := below_step hb5 bb4.size bb4
      have hz5 := bb5.size
      have k150 : (w5).cell? ⟨w2.heap.size, 0, none⟩ = some (.int .i64 X) := k15.cell 0; have k151 : (w5).cell? ⟨w2.heap.size, 1, none⟩ = some (.int .i64 Y) := k15.cell 1; have k15l : w2.heap.size < (w5).heap.size := k15.lt
      have a35' := OwnsP.below a35 ((Below.refl w5.heap.size w5).alloc (Nat.le_refl _) (.cells #[.int .i64 X, .int .i64 Y] 34))
      have bb5' : Below w.heap.size w (w5.alloc (.cells #[.int .i64 X, .int .i64 Y] 34)) := by (repeat' (first | (with_reducible exact Below.refl _ _) | (with_reducible refine below_step (by assumption) ?_ ?_) | (with_reducible refine Below.alloc ?_ ?_ _) | (with_reducible refine Below.setCell ?_ ?_ _) | (with_reducible refine below_drewN ?_ _) | (with_reducible refine Below.drew ?_) | omega | (simp; omega) | (simp; done)))
      have e1 : (X == X && Y == Y) = true := by simp
      have hcq := fun W => c_eqCurve X Y X Y W
      rw [e1] at hcq
      have HCQ := Lib.hid hcq
      clear e1 hcq
      go_wp2_with fail
      refine (HCQ.out _).mono ?_
      rintro e w6 ⟨rfl, hb6⟩
      have a36 := OwnsP.below a35' hb6
      have bb6 : Below w.heap.size w w6 := below_step hb6 bb5'.size bb5'
      go_wp2_with fail
      refine (c_toStepS v L hL _ (RdP.belowN HO.out bb6)).mono ?_
      rintro e w7 ⟨u7, rfl, a7, hb7⟩
      have a37 := OwnsP.below a36 hb7
      have bb7 : Below w.heap.size w w7 := below_step hb7 bb6.size bb6
      go_wp2_with fail
      refine (c_eqStepS _ _ _ _ L (by omega) _ a37 a7).mono ?_
      rintro e w8 ⟨rfl, hb8⟩
      have bb8 : Below w.heap.size w w8 := below_step hb8 bb7.size bb7
      go_wp2
      go_ret
      exact ⟨rfl, bb8⟩
  · simp only [if_neg hL] at h0
    go_enter Try.func8, Try.ntmps8
    go_wp2_with fail
    refine (h0 _ (by (repeat' (first | (with_reducible exact Below.refl _ _) | (with_reducible refine below_step (by assumption) ?_ ?_) | (with_reducible refine Below.alloc ?_ ?_ _) | (with_reducible refine Below.setCell ?_ ?_ _) | (with_reducible refine below_drewN ?_ _) | (with_reducible refine Below.drew ?_) | omega | (simp; omega) | (simp; done))))).mono ?_
    rintro e w' ⟨rfl, rfl⟩
    go_wp2
    go_ret
    refine ⟨rfl, ?_⟩
    (repeat' (first | (with_reducible exact Below.refl _ _) | (with_reducible refine below_step (by assumption) ?_ ?_) | (with_reducible refine Below.alloc ?_ ?_ _) | (with_reducible refine Below.setCell ?_ ?_ _) | (with_reducible refine below_drewN ?_ _) | (with_reducible refine Below.drew ?_) | omega | (simp; omega) | (simp; done)))
end Go.Proofs.Ytmahgnmacakfnaa
