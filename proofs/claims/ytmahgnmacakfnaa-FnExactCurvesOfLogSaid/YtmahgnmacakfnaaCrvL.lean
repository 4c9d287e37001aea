/- Walks: the law of CurvesOfLog. -/
import Derived.Test.YtmahgnmacakfnaaCrv2
namespace Go.Proofs.Ytmahgnmacakfnaa
open Go.RowKit

set_option maxHeartbeats 4000000 in
theorem walk_FnExactCurvesOfLog (A B : Int) (v : Value) (L : List (Int × Int)) (_ : (Lit.int .i64 A).wf = true) (_ : (Lit.int .i64 B).wf = true) (_ : ∀ c ∈ L, (Lit.int .i64 c.1).wf = true ∧ (Lit.int .i64 c.2).wf = true) (w : World) (o : RdP w v L) :
    Calls Try.prog 9 #[.agg #[.int .i64 A, .int .i64 B], v] w fun e w' => e = .returned (.bool true) ∧ Below w.heap.size w w' := by
  have h0 := fun W hW => c_szStepS v L W (RdP.belowN (w1 := W) o hW)
  by_cases hL : L.length ≤ 1048576
  · simp only [if_pos hL] at h0
    have hs : (0 : Int) ≤ 1048576 - L.length := by omega
    have h1 := fun base u W => c_sCurvesOfLog base u A B L (by omega) W
    have h2 := fun base u W => c_iCurvesOfLog base u A B L (by omega) W
    have hR := (ccL_len (A, B) L)
    generalize (ccL (A, B) L) = R at h1 h2 hR
    generalize (ccO (A, B) L) = b at h1 h2
    have H0 := Lib.hid h0
    have H1 := Lib.hid h1
    have H2 := Lib.hid h2
    have HO := Lib.hid o
    clear h0 h1 h2 o
    generalize hz : (1048576 - L.length : Int) = z at H0 hs
    clear hz
    cases b
    all_goals
      have kb := Blk.new w #[.int .i64 A, .int .i64 B] 31
      go_enter Try.func9, Try.ntmps9
      go_wp2_with fail
      refine (H0.out _ (by (repeat' (first | (with_reducible exact Below.refl _ _) | (with_reducible refine below_step (by assumption) ?_ ?_) | (with_reducible refine Below.alloc ?_ ?_ _) | (with_reducible refine Below.setCell ?_ ?_ _) | (with_reducible refine below_drewN ?_ _) | (with_reducible refine Below.drew ?_) | omega | (simp; omega) | (simp; done))))).mono ?_
      rintro e w' ⟨rfl, rfl⟩
      go_wp2_with fail
      refine (c_toCurve _ _ _).mono ?_
      rintro e w0a ⟨rfl, hb0a⟩
      have hz0a := hb0a.size
      (try simp only [World.size_alloc] at hz0a)
      have bb0a : Below w.heap.size w w0a := by (repeat' (first | (with_reducible exact Below.refl _ _) | (with_reducible refine below_step (by assumption) ?_ ?_) | (with_reducible refine Below.alloc ?_ ?_ _) | (with_reducible refine Below.setCell ?_ ?_ _) | (with_reducible refine below_drewN ?_ _) | (with_reducible refine Below.drew ?_) | omega | (simp; omega) | (simp; done)))
      have hs0a := bb0a.size
      have kb0 := kb.next hb0a
      go_wp2_with fail
      refine (c_toStepS v L hL _ (RdP.belowN HO.out (by (repeat' (first | (with_reducible exact Below.refl _ _) | (with_reducible refine below_step (by assumption) ?_ ?_) | (with_reducible refine Below.alloc ?_ ?_ _) | (with_reducible refine Below.setCell ?_ ?_ _) | (with_reducible refine below_drewN ?_ _) | (with_reducible refine Below.drew ?_) | omega | (simp; omega) | (simp; done)))))).mono ?_
      rintro e w1 ⟨u1, rfl, a1, hb1⟩
      have kb1 := kb0.next hb1
      have hz1 := hb1.size
      have bb1 : Below w.heap.size w w1 := by (repeat' (first | (with_reducible exact Below.refl _ _) | (with_reducible refine below_step (by assumption) ?_ ?_) | (with_reducible refine Below.alloc ?_ ?_ _) | (with_reducible refine Below.setCell ?_ ?_ _) | (with_reducible refine below_drewN ?_ _) | (with_reducible refine Below.drew ?_) | omega | (simp; omega) | (simp; done)))
      go_wp2_with fail
      refine (H1.out _ _ _ a1).mono ?_
      rintro e w2 ⟨r2, rfl, a2, hb2⟩
      have kb2 := kb1.next hb2
      have hz2 := hb2.size
      have bb2 : Below w.heap.size w w2 := below_step hb2 bb1.size bb1
      go_wp2_with fail
      refine (c_toStepS v L hL _ (RdP.belowN HO.out (by (repeat' (first | (with_reducible exact Below.refl _ _) | (with_reducible refine below_step (by assumption) ?_ ?_) | (with_reducible refine Below.alloc ?_ ?_ _) | (with_reducible refine Below.setCell ?_ ?_ _) | (with_reducible refine below_drewN ?_ _) | (with_reducible refine Below.drew ?_) | omega | (simp; omega) | (simp; done)))))).mono ?_
      rintro e w3 ⟨u3, rfl, a3, hb3⟩
      have kb3 := kb2.next hb3
      have hz3 := hb3.size
      have bb3 : Below w.heap.size w w3 := below_step hb3 bb2.size bb2
      have l3 := a3.lt
      have kb30 := kb3.cell 0
      have kb31 := kb3.cell 1
      simp only [List.getElem?_toArray, List.getElem?_cons_zero, List.getElem?_cons_succ] at kb30 kb31
      go_wp2_with fail
      refine (c_toCurve _ _ _).mono ?_
      rintro e w0b ⟨rfl, hb0b⟩
      have hz0b := hb0b.size
      (try simp only [World.size_alloc] at hz0b)
      have bb0b : Below w.heap.size w w0b := by (repeat' (first | (with_reducible exact Below.refl _ _) | (with_reducible refine below_step (by assumption) ?_ ?_) | (with_reducible refine Below.alloc ?_ ?_ _) | (with_reducible refine Below.setCell ?_ ?_ _) | (with_reducible refine below_drewN ?_ _) | (with_reducible refine Below.drew ?_) | omega | (simp; omega) | (simp; done)))
      have hs0b := bb0b.size
      have a3b := OwnsP.below a3 hb0b
      have hlb := kb3.lt
      go_wp2_with fail
      refine (H2.out _ _ _ a3b).mono ?_
      rintro e w4 ⟨r4, rfl, a4, hb4⟩
      have kbc := kb3.next hb0b
      have kb4 := kbc.next hb4
      have hz4 := hb4.size
      have a3' := OwnsP.below a3b hb4
      have a2' := (OwnsP.below (OwnsP.below (OwnsP.below a2 hb3) hb0b) hb4)
      have bb4 : Below w.heap.size w w4 := below_step hb4 bb0b.size bb0b
      have l2 := a2.lt
      have l4 := a4.lt
      go_wp2_with fail
      refine (c_eqCurveS _ _ _ _ R (by omega) _ a4 a2').mono ?_
      rintro e w5 ⟨rfl, hb5⟩
      have kb5 := kb4.next hb5
      have hz5 := hb5.size
      have bb5 : Below w.heap.size w w5 := below_step hb5 bb4.size bb4
      go_wp2_with fail
      refine (c_toStepS v L hL _ (RdP.belowN HO.out (by (repeat' (first | (with_reducible exact Below.refl _ _) | (with_reducible refine below_step (by assumption) ?_ ?_) | (with_reducible refine Below.alloc ?_ ?_ _) | (with_reducible refine Below.setCell ?_ ?_ _) | (with_reducible refine below_drewN ?_ _) | (with_reducible refine Below.drew ?_) | omega | (simp; omega) | (simp; done)))))).mono ?_
      rintro e w6 ⟨u6, rfl, a6, hb6⟩
      have kb6 := kb5.next hb6
      have hz6 := hb6.size
      have bb6 : Below w.heap.size w w6 := below_step hb6 bb5.size bb5
      have a36 := OwnsP.below (OwnsP.below a3' hb5) hb6
      go_wp2_with fail
      refine (c_eqStepS _ _ _ _ L (by omega) _ a36 a6).mono ?_
      rintro e w7 ⟨rfl, hb7⟩
      have kb7 := kb6.next hb7
      have hz7 := hb7.size
      have bb7 : Below w.heap.size w w7 := below_step hb7 bb6.size bb6
      have a37 := OwnsP.below a36 hb7
      have a47 := OwnsP.below (OwnsP.below (OwnsP.below a4 hb5) hb6) hb7
      have a27 := OwnsP.below (OwnsP.below (OwnsP.below a2' hb5) hb6) hb7
      go_wp2_with fail
      refine (c_markStepS _ _ L (by omega) _ a37).mono ?_
      rintro e w8 ⟨rfl, m8, hg8⟩
      have hz8 := hg8.size
      have b8 := below_of_grown (B := w2.heap.size) hg8 (by omega) (fun k hk => (l3 k hk).1)
      have bb8 : Below w.heap.size w w8 := below_step b8 bb2.size bb7
      have kb8 : Blk w.heap.size #[.int .i64 A, .int .i64 B] 31 w8 := (b8.block w.heap.size (by have := kb2.lt; omega)).trans kb7
      have a28 := a27.grown hg8 (base' := w2.heap.size) (fun k hk => (l2 k hk).2) (fun k hk => (l3 k hk).1)
      have a48 : OwnsP _ w8 _ r4 R := grown_up a47 hg8 (fun k hk => by have := (l3 k hk).2; omega) (fun k hk => by have := (l4 k hk).1; omega)
      have hk1 : (0 : Int) ≤ 1 + 2 * L.length := by omega
      go_wp2_with fail
      refine (c_eqCurveS _ _ _ _ R (by omega) _ a48 a28).mono ?_
      rintro e w9 ⟨rfl, hb9⟩
      have kb9 := kb8.next hb9
      have hz9 := hb9.size
      have bb9 : Below w.heap.size w w9 := below_step hb9 bb8.size bb8
      have a29 := OwnsP.below a28 hb9
      have a49 := OwnsP.below a48 hb9
      go_wp2_with fail
      refine (c_markCurveS _ _ R (by omega) _ a49).mono ?_
      rintro e wA ⟨rfl, mA, hgA⟩
      have hzA := hgA.size
      have bA := below_of_grown (B := w3.heap.size) hgA (by omega) (fun k hk => by have := (l4 k hk).1; omega)
      have bbA : Below w.heap.size w wA := below_step bA (by omega) bb9
      have kbA : Blk w.heap.size #[.int .i64 A, .int .i64 B] 31 wA := (bA.block w.heap.size (by have := kb3.lt; omega)).trans kb9
      have a2A := a29.grown hgA (base' := w3.heap.size) (fun k hk => by have := (l2 k hk).2; omega) (fun k hk => by have := (l4 k hk).1; omega)
      go_wp2_with fail
      refine (c_heldCurveS _ _ R.length (by omega) _ mA).mono ?_
      rintro e w' ⟨rfl, rfl⟩
      have kbA0 := kbA.cell 0
      have kbA1 := kbA.cell 1
      simp only [List.getElem?_toArray, List.getElem?_cons_zero, List.getElem?_cons_succ] at kbA0 kbA1
      go_wp2_with fail
      refine (c_toCurve _ _ _).mono ?_
      rintro e w0c ⟨rfl, hb0c⟩
      have hz0c := hb0c.size
      (try simp only [World.size_alloc] at hz0c)
      have bb0c : Below w.heap.size w w0c := by (repeat' (first | (with_reducible exact Below.refl _ _) | (with_reducible refine below_step (by assumption) ?_ ?_) | (with_reducible refine Below.alloc ?_ ?_ _) | (with_reducible refine Below.setCell ?_ ?_ _) | (with_reducible refine below_drewN ?_ _) | (with_reducible refine Below.drew ?_) | omega | (simp; omega) | (simp; done)))
      have hs0c := bb0c.size
      go_wp2_with fail
      refine (c_toStepS v L hL _ (RdP.belowN HO.out (by (repeat' (first | (with_reducible exact Below.refl _ _) | (with_reducible refine below_step (by assumption) ?_ ?_) | (with_reducible refine Below.alloc ?_ ?_ _) | (with_reducible refine Below.setCell ?_ ?_ _) | (with_reducible refine below_drewN ?_ _) | (with_reducible refine Below.drew ?_) | omega | (simp; omega) | (simp; done)))))).mono ?_
      rintro e wB ⟨uB, rfl, aB, hbB⟩
      have hzB := hbB.size
      have bbB : Below w.heap.size w wB := below_step hbB bb0c.size bb0c
      go_wp2_with fail
      refine (H2.out _ _ _ aB).mono ?_
      rintro e wC ⟨rC, rfl, aC, hbC⟩
      have hzC := hbC.size
      have bbC : Below w.heap.size w wC := below_step hbC bbB.size bbB
      have a2C := OwnsP.below (OwnsP.below (OwnsP.below a2A hb0c) hbB) hbC
      have mC := OwnsP.below (OwnsP.below (OwnsP.below mA hb0c) hbB) hbC
      go_wp2_with fail
      refine (c_eqCurveS _ _ _ _ R (by omega) _ aC a2C).mono ?_
      rintro e wD ⟨rfl, hbD⟩
      have hzD := hbD.size
      have bbD : Below w.heap.size w wD := below_step hbD bbC.size bbC
      have mD := OwnsP.below mC hbD
      go_wp2_with fail
      refine (c_heldCurveS _ _ R.length (by omega) _ mD).mono ?_
      rintro e w' ⟨rfl, rfl⟩
      go_wp2
      go_ret
      exact ⟨rfl, bbD⟩
  · simp only [if_neg hL] at h0
    go_enter Try.func9, Try.ntmps9
    go_wp2_with fail
    refine (h0 _ (by (repeat' (first | (with_reducible exact Below.refl _ _) | (with_reducible refine below_step (by assumption) ?_ ?_) | (with_reducible refine Below.alloc ?_ ?_ _) | (with_reducible refine Below.setCell ?_ ?_ _) | (with_reducible refine below_drewN ?_ _) | (with_reducible refine Below.drew ?_) | omega | (simp; omega) | (simp; done))))).mono ?_
    rintro e w' ⟨rfl, rfl⟩
    go_wp2
    go_ret
    refine ⟨rfl, ?_⟩
    (repeat' (first | (with_reducible exact Below.refl _ _) | (with_reducible refine below_step (by assumption) ?_ ?_) | (with_reducible refine Below.alloc ?_ ?_ _) | (with_reducible refine Below.setCell ?_ ?_ _) | (with_reducible refine below_drewN ?_ _) | (with_reducible refine Below.drew ?_) | omega | (simp; omega) | (simp; done)))
end Go.Proofs.Ytmahgnmacakfnaa
