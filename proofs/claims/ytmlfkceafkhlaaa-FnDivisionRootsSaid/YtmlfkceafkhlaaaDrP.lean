/- Walks: a curve with a point, drawn (pointed). -/
import Derived.Test.YtmlfkceafkhlaaaDrA
namespace Go.Proofs.Ytmlfkceafkhlaaa
open Go.RowKit

section
variable {B k n : Nat} {v : Value} {xs : List Int} {w0 w : World} {bl : List (Nat × Array Value × TypeId)}
/-- a curve and a point with E = 1, drawn -/
def PointedD (B k : Nat) (v : Value) (xs : List Int) (n : Nat) (w0 : World) (bl : List (Nat × Array Value × TypeId)) (e : Ending) (w' : World) : Prop :=
  ∃ a b x y : Int, e = .returned (.tuple #[.agg #[.int .i64 a, .int .i64 b], .agg #[.int .i64 x, .int .i64 y, .int .i64 1]]) ∧ (curveB a b = true ∧ (-50 ≤ x ∧ x ≤ 50) ∧ (-50 ≤ y ∧ y ≤ 50)) ∧ Dr B k v xs n w0 bl w'
set_option maxHeartbeats 4000000 in
theorem d_pointed (d : Dr B k v xs n w0 bl w) (hn : n ≤ 600000) : Calls Try.prog 50 #[.pointer (some ⟨k, 0, none⟩)] w (PointedD B k v xs (n + 20) w0 bl) := by
  have d1 := (d.alloc #[.int .i64 0, .int .i64 0] 24).alloc #[.int .i64 0, .int .i64 0, .int .i64 0] 69
  go_enter Try.func50, Try.ntmps50
  go_upto_region 1 with (fail)
  generalize (w.alloc _).alloc _ = W at d1 ⊢
  rw [World.size_alloc] at d1
  have hne : ¬ (w.heap.size + 1 = w.heap.size) := by omega
  have hne' : ¬ (w.heap.size = w.heap.size + 1) := by omega
  generalize w.heap.size + 1 = S' at d1 hne hne' ⊢
  generalize w.heap.size = S at d1 hne hne' ⊢
  go_wp2_with fail
  refine (d_pick d1 (by omega) 6 (by omega)).mono ?_
  rintro e w2 ⟨x, rfl, hx, d2⟩
  clear d1
  by_cases h0 : x = 0
  · subst h0
    have d3 := (d2.alloc #[.int .i64 0, .int .i64 4, .int .i64 0, .int .i64 1, .int .i64 4, .int .i64 0, .int .i64 (-1), .int .i64 0, .int .i64 (-43), .int .i64 166, .int .i64 0, .int .i64 (-432)] 24).alloc
      #[.int .i64 0, .int .i64 2, .int .i64 1, .int .i64 2, .int .i64 3, .int .i64 1, .int .i64 2, .int .i64 4, .int .i64 1, .int .i64 1, .int .i64 0, .int .i64 1, .int .i64 3, .int .i64 8, .int .i64 1, .int .i64 12, .int .i64 36, .int .i64 1] 69
    rw [World.size_alloc] at d3
    go_upto_region 5 with (fail)
    generalize (w2.alloc _).alloc _ = W3 at d3 ⊢
    generalize w2.heap.size + 1 = g2 at d3 ⊢
    generalize w2.heap.size = g1 at d3 ⊢
    go_wp2_with fail
    refine (d_pick d3 (by omega) 6 (by omega)).mono ?_
    rintro e w4 ⟨i, rfl, hi, d4⟩
    simp only [show ¬ ((6 : Int) ≤ 1) by omega, if_false] at hi
    have kP := d4.head
    have kC := d4.swap.head
    have n1 : ¬ (g2 = S) := fun e => (List.pairwise_cons.1 d4.dif).1 (S, #[.int .i64 0, .int .i64 0], 24) (by simp) e
    have n2 : ¬ (g2 = S') := fun e => (List.pairwise_cons.1 d4.dif).1 (S', #[.int .i64 0, .int .i64 0, .int .i64 0], 69) (by simp) e
    have n3 : ¬ (g1 = S) := fun e => (List.pairwise_cons.1 d4.swap.dif).1 (S, #[.int .i64 0, .int .i64 0], 24) (by simp) e
    have n4 : ¬ (g1 = S') := fun e => (List.pairwise_cons.1 d4.swap.dif).1 (S', #[.int .i64 0, .int .i64 0, .int .i64 0], 69) (by simp) e
    have n5 : ¬ (S = g2) := fun e => n1 e.symm
    have n6 : ¬ (S' = g2) := fun e => n2 e.symm
    have n7 : ¬ (S = g1) := fun e => n3 e.symm
    have n8 : ¬ (S' = g1) := fun e => n4 e.symm
    have d5 := d4.tail.tail
    have lP := kP.lt
    have lC := kC.lt
    clear d3 d2
    rcases (by omega : i = 0 ∨ i = 1 ∨ i = 2 ∨ i = 3 ∨ i = 4 ∨ i = 5) with rfl | rfl | rfl | rfl | rfl | rfl
    · have i0 : w4.cell? ⟨g1, 0, none⟩ = some (.int .i64 0) := kC.cell 0
      have i1 : w4.cell? ⟨g1, 1, none⟩ = some (.int .i64 4) := kC.cell 1
      have i2 : w4.cell? ⟨g2, 0, none⟩ = some (.int .i64 0) := kP.cell 0
      have i3 : w4.cell? ⟨g2, 1, none⟩ = some (.int .i64 2) := kP.cell 1
      have i4 : w4.cell? ⟨g2, 2, none⟩ = some (.int .i64 1) := kP.cell 2
      clear kP kC
      obtain ⟨z0, z1, z2, z3, z4, z5⟩ := d5.three
      obtain ⟨y0, y1, y2, y3⟩ := d5.swap.two
      go_upto_region 6 with (fail)
      go_big_region
      have e2 := ((d5.swap.s01 (.int .i64 0) (.int .i64 4)).swap.s012 (.int .i64 0) (.int .i64 2) (.int .i64 1))
      generalize (World.setCell (World.setCell (World.setCell (World.setCell (World.setCell _ _ _) _ _) _ _) _ _) _ _) = w6 at e2 ⊢
      replace e2 := e2.below (Below.refl _ _).drew
      generalize w6.drew = w7 at e2 ⊢
      obtain ⟨q0, q1, q2, _⟩ := e2.three
      obtain ⟨r0, r1, _⟩ := e2.swap.two
      go_wp2
      refine bodyPost_ret (v := .tuple #[.agg #[.int .i64 0, .int .i64 4], .agg #[.int .i64 0, .int .i64 2, .int .i64 1]]) (by simp [results, Try.results50, go_sem, q0, q1, q2, r0, r1]) rfl ?_
      exact ⟨_, _, _, _, rfl, by decide, e2.tail.tail.le (by omega)⟩
    · have i0 : w4.cell? ⟨g1, 2, none⟩ = some (.int .i64 0) := kC.cell 2
      have i1 : w4.cell? ⟨g1, 3, none⟩ = some (.int .i64 1) := kC.cell 3
      have i2 : w4.cell? ⟨g2, 3, none⟩ = some (.int .i64 2) := kP.cell 3
      have i3 : w4.cell? ⟨g2, 4, none⟩ = some (.int .i64 3) := kP.cell 4
      have i4 : w4.cell? ⟨g2, 5, none⟩ = some (.int .i64 1) := kP.cell 5
      clear kP kC
      obtain ⟨z0, z1, z2, z3, z4, z5⟩ := d5.three
      obtain ⟨y0, y1, y2, y3⟩ := d5.swap.two
      go_upto_region 6 with (fail)
      go_big_region
      have e2 := ((d5.swap.s01 (.int .i64 0) (.int .i64 1)).swap.s012 (.int .i64 2) (.int .i64 3) (.int .i64 1))
      generalize (World.setCell (World.setCell (World.setCell (World.setCell (World.setCell _ _ _) _ _) _ _) _ _) _ _) = w6 at e2 ⊢
      replace e2 := e2.below (Below.refl _ _).drew
      generalize w6.drew = w7 at e2 ⊢
      obtain ⟨q0, q1, q2, _⟩ := e2.three
      obtain ⟨r0, r1, _⟩ := e2.swap.two
      go_wp2
      refine bodyPost_ret (v := .tuple #[.agg #[.int .i64 0, .int .i64 1], .agg #[.int .i64 2, .int .i64 3, .int .i64 1]]) (by simp [results, Try.results50, go_sem, q0, q1, q2, r0, r1]) rfl ?_
      exact ⟨_, _, _, _, rfl, by decide, e2.tail.tail.le (by omega)⟩
    · have i0 : w4.cell? ⟨g1, 4, none⟩ = some (.int .i64 4) := kC.cell 4
      have i1 : w4.cell? ⟨g1, 5, none⟩ = some (.int .i64 0) := kC.cell 5
      have i2 : w4.cell? ⟨g2, 6, none⟩ = some (.int .i64 2) := kP.cell 6
      have i3 : w4.cell? ⟨g2, 7, none⟩ = some (.int .i64 4) := kP.cell 7
      have i4 : w4.cell? ⟨g2, 8, none⟩ = some (.int .i64 1) := kP.cell 8
      clear kP kC
      obtain ⟨z0, z1, z2, z3, z4, z5⟩ := d5.three
      obtain ⟨y0, y1, y2, y3⟩ := d5.swap.two
      go_upto_region 6 with (fail)
      go_big_region
      have e2 := ((d5.swap.s01 (.int .i64 4) (.int .i64 0)).swap.s012 (.int .i64 2) (.int .i64 4) (.int .i64 1))
      generalize (World.setCell (World.setCell (World.setCell (World.setCell (World.setCell _ _ _) _ _) _ _) _ _) _ _) = w6 at e2 ⊢
      replace e2 := e2.below (Below.refl _ _).drew
      generalize w6.drew = w7 at e2 ⊢
      obtain ⟨q0, q1, q2, _⟩ := e2.three
      obtain ⟨r0, r1, _⟩ := e2.swap.two
      go_wp2
      refine bodyPost_ret (v := .tuple #[.agg #[.int .i64 4, .int .i64 0], .agg #[.int .i64 2, .int .i64 4, .int .i64 1]]) (by simp [results, Try.results50, go_sem, q0, q1, q2, r0, r1]) rfl ?_
      exact ⟨_, _, _, _, rfl, by decide, e2.tail.tail.le (by omega)⟩
    · have i0 : w4.cell? ⟨g1, 6, none⟩ = some (.int .i64 (-1)) := kC.cell 6
      have i1 : w4.cell? ⟨g1, 7, none⟩ = some (.int .i64 0) := kC.cell 7
      have i2 : w4.cell? ⟨g2, 9, none⟩ = some (.int .i64 1) := kP.cell 9
      have i3 : w4.cell? ⟨g2, 10, none⟩ = some (.int .i64 0) := kP.cell 10
      have i4 : w4.cell? ⟨g2, 11, none⟩ = some (.int .i64 1) := kP.cell 11
      clear kP kC
      obtain ⟨z0, z1, z2, z3, z4, z5⟩ := d5.three
      obtain ⟨y0, y1, y2, y3⟩ := d5.swap.two
      go_upto_region 6 with (fail)
      go_big_region
      have e2 := ((d5.swap.s01 (.int .i64 (-1)) (.int .i64 0)).swap.s012 (.int .i64 1) (.int .i64 0) (.int .i64 1))
      generalize (World.setCell (World.setCell (World.setCell (World.setCell (World.setCell _ _ _) _ _) _ _) _ _) _ _) = w6 at e2 ⊢
      replace e2 := e2.below (Below.refl _ _).drew
      generalize w6.drew = w7 at e2 ⊢
      obtain ⟨q0, q1, q2, _⟩ := e2.three
      obtain ⟨r0, r1, _⟩ := e2.swap.two
      go_wp2
      refine bodyPost_ret (v := .tuple #[.agg #[.int .i64 (-1), .int .i64 0], .agg #[.int .i64 1, .int .i64 0, .int .i64 1]]) (by simp [results, Try.results50, go_sem, q0, q1, q2, r0, r1]) rfl ?_
      exact ⟨_, _, _, _, rfl, by decide, e2.tail.tail.le (by omega)⟩
    · have i0 : w4.cell? ⟨g1, 8, none⟩ = some (.int .i64 (-43)) := kC.cell 8
      have i1 : w4.cell? ⟨g1, 9, none⟩ = some (.int .i64 166) := kC.cell 9
      have i2 : w4.cell? ⟨g2, 12, none⟩ = some (.int .i64 3) := kP.cell 12
      have i3 : w4.cell? ⟨g2, 13, none⟩ = some (.int .i64 8) := kP.cell 13
      have i4 : w4.cell? ⟨g2, 14, none⟩ = some (.int .i64 1) := kP.cell 14
      clear kP kC
      obtain ⟨z0, z1, z2, z3, z4, z5⟩ := d5.three
      obtain ⟨y0, y1, y2, y3⟩ := d5.swap.two
      go_upto_region 6 with (fail)
      go_big_region
      have e2 := ((d5.swap.s01 (.int .i64 (-43)) (.int .i64 166)).swap.s012 (.int .i64 3) (.int .i64 8) (.int .i64 1))
      generalize (World.setCell (World.setCell (World.setCell (World.setCell (World.setCell _ _ _) _ _) _ _) _ _) _ _) = w6 at e2 ⊢
      replace e2 := e2.below (Below.refl _ _).drew
      generalize w6.drew = w7 at e2 ⊢
      obtain ⟨q0, q1, q2, _⟩ := e2.three
      obtain ⟨r0, r1, _⟩ := e2.swap.two
      go_wp2
      refine bodyPost_ret (v := .tuple #[.agg #[.int .i64 (-43), .int .i64 166], .agg #[.int .i64 3, .int .i64 8, .int .i64 1]]) (by simp [results, Try.results50, go_sem, q0, q1, q2, r0, r1]) rfl ?_
      exact ⟨_, _, _, _, rfl, by decide, e2.tail.tail.le (by omega)⟩
    · have i0 : w4.cell? ⟨g1, 10, none⟩ = some (.int .i64 0) := kC.cell 10
      have i1 : w4.cell? ⟨g1, 11, none⟩ = some (.int .i64 (-432)) := kC.cell 11
      have i2 : w4.cell? ⟨g2, 15, none⟩ = some (.int .i64 12) := kP.cell 15
      have i3 : w4.cell? ⟨g2, 16, none⟩ = some (.int .i64 36) := kP.cell 16
      have i4 : w4.cell? ⟨g2, 17, none⟩ = some (.int .i64 1) := kP.cell 17
      clear kP kC
      obtain ⟨z0, z1, z2, z3, z4, z5⟩ := d5.three
      obtain ⟨y0, y1, y2, y3⟩ := d5.swap.two
      go_upto_region 6 with (fail)
      go_big_region
      have e2 := ((d5.swap.s01 (.int .i64 0) (.int .i64 (-432))).swap.s012 (.int .i64 12) (.int .i64 36) (.int .i64 1))
      generalize (World.setCell (World.setCell (World.setCell (World.setCell (World.setCell _ _ _) _ _) _ _) _ _) _ _) = w6 at e2 ⊢
      replace e2 := e2.below (Below.refl _ _).drew
      generalize w6.drew = w7 at e2 ⊢
      obtain ⟨q0, q1, q2, _⟩ := e2.three
      obtain ⟨r0, r1, _⟩ := e2.swap.two
      go_wp2
      refine bodyPost_ret (v := .tuple #[.agg #[.int .i64 0, .int .i64 (-432)], .agg #[.int .i64 12, .int .i64 36, .int .i64 1]]) (by simp [results, Try.results50, go_sem, q0, q1, q2, r0, r1]) rfl ?_
      exact ⟨_, _, _, _, rfl, by decide, e2.tail.tail.le (by omega)⟩
  · by_cases h1 : x = 1
    · subst h1
      obtain ⟨z0, z1, z2, z3, z4, z5⟩ := d2.three
      obtain ⟨y0, y1, y2, y3⟩ := d2.swap.two
      have e2 := (d2.swap.s01 (.int .i64 (-16)) (.int .i64 16)).swap.s012 (.int .i64 0) (.int .i64 4) (.int .i64 1)
      go_wp2
      generalize (World.setCell (World.setCell (World.setCell (World.setCell (World.setCell _ _ _) _ _) _ _) _ _) _ _) = w6 at e2 ⊢
      obtain ⟨q0, q1, q2, _⟩ := e2.three
      obtain ⟨r0, r1, _⟩ := e2.swap.two
      refine bodyPost_ret (v := .tuple #[.agg #[.int .i64 (-16), .int .i64 16], .agg #[.int .i64 0, .int .i64 4, .int .i64 1]]) (by simp [results, Try.results50, go_sem, q0, q1, q2, r0, r1]) rfl ?_
      exact ⟨_, _, _, _, rfl, by decide, e2.tail.tail.le (by omega)⟩
    · by_cases h2 : x = 2
      · subst h2
        obtain ⟨z0, z1, z2, z3, z4, z5⟩ := d2.three
        obtain ⟨y0, y1, y2, y3⟩ := d2.swap.two
        have e2 := (d2.swap.s01 (.int .i64 (-25)) (.int .i64 0)).swap.s012 (.int .i64 (-4)) (.int .i64 6) (.int .i64 1)
        go_wp2
        generalize (World.setCell (World.setCell (World.setCell (World.setCell (World.setCell _ _ _) _ _) _ _) _ _) _ _) = w6 at e2 ⊢
        obtain ⟨q0, q1, q2, _⟩ := e2.three
        obtain ⟨r0, r1, _⟩ := e2.swap.two
        refine bodyPost_ret (v := .tuple #[.agg #[.int .i64 (-25), .int .i64 0], .agg #[.int .i64 (-4), .int .i64 6, .int .i64 1]]) (by simp [results, Try.results50, go_sem, q0, q1, q2, r0, r1]) rfl ?_
        exact ⟨_, _, _, _, rfl, by decide, e2.tail.tail.le (by omega)⟩
      · go_wp2_with fail
        refine (d_pick d2 (by omega) 21 (by omega)).mono ?_
        rintro e w3 ⟨x3, rfl, h3, d3⟩
        go_wp2_with fail
        refine (d_pick d3 (by omega) 31 (by omega)).mono ?_
        rintro e w4 ⟨x4, rfl, h4, d4⟩
        go_wp2_with fail
        refine (d_pick d4 (by omega) 31 (by omega)).mono ?_
        rintro e w5 ⟨x5, rfl, h5, d5⟩
        simp only [show ¬ ((21 : Int) ≤ 1) by omega, show ¬ ((31 : Int) ≤ 1) by omega, if_false] at h3 h4 h5
        clear d2 d3 d4
        have bX : -10 ≤ x3 - 10 ∧ x3 - 10 ≤ 10 := by omega
        have bY : -15 ≤ x4 - 15 ∧ x4 - 15 ≤ 15 := by omega
        have bA : -15 ≤ x5 - 15 ∧ x5 - 15 ≤ 15 := by omega
        clear h3 h4 h5
        have p1 := mulb 15 15 bY bY
        have p2 := mulb 10 10 bX bX
        have p3 := mulb 100 10 p2 bX
        have p4 := mulb 15 10 bA bX
        have d6 := d5.alloc #[.int .i64 (x5 - 15), .int .i64 ((x4 - 15) * (x4 - 15) - (x3 - 10) * (x3 - 10) * (x3 - 10) - (x5 - 15) * (x3 - 10))] 24
        go_wp2_with fail
        refine (c_ecGood _ _ _).mono ?_
        rintro e w7 ⟨rfl, hb7⟩
        have d7 := d6.below hb7
        have hE : ¬ (w5.heap.size = S) := fun e => (List.pairwise_cons.1 d6.dif).1 (S, #[.int .i64 0, .int .i64 0], 24) (by simp) e
        have hE' : ¬ (w5.heap.size = S') := fun e => (List.pairwise_cons.1 d6.dif).1 (S', #[.int .i64 0, .int .i64 0, .int .i64 0], 69) (by simp) e
        have hE2 : ¬ (S = w5.heap.size) := fun e => hE e.symm
        have hE2' : ¬ (S' = w5.heap.size) := fun e => hE' e.symm
        clear d5 d6
        generalize ((x4 - 15) * (x4 - 15) - (x3 - 10) * (x3 - 10) * (x3 - 10) - (x5 - 15) * (x3 - 10)) = b at d7 ⊢
        generalize x3 - 10 = X at bX ⊢
        generalize x4 - 15 = Y at bY ⊢
        generalize x5 - 15 = a at d7 ⊢
        generalize w5.heap.size = E at *
        clear hb7 p1 p2 p3 p4 bA
        obtain ⟨c0, c1, _⟩ := d7.two
        have d8 := d7.tail
        cases hq : curveB a b
        · obtain ⟨z0, z1, z2, z3, z4, z5⟩ := d8.three
          obtain ⟨y0, y1, y2, y3⟩ := d8.swap.two
          have e2 := (d8.swap.s01 (.int .i64 (-2)) (.int .i64 1)).swap.s012 (.int .i64 0) (.int .i64 1) (.int .i64 1)
          go_wp2
          generalize (World.setCell (World.setCell (World.setCell (World.setCell (World.setCell _ _ _) _ _) _ _) _ _) _ _) = w6 at e2 ⊢
          obtain ⟨q0, q1, q2, _⟩ := e2.three
          obtain ⟨r0, r1, _⟩ := e2.swap.two
          refine bodyPost_ret (v := .tuple #[.agg #[.int .i64 (-2), .int .i64 1], .agg #[.int .i64 0, .int .i64 1, .int .i64 1]]) (by simp [results, Try.results50, go_sem, q0, q1, q2, r0, r1]) rfl ?_
          exact ⟨_, _, _, _, rfl, by decide, e2.tail.tail.le (by omega)⟩
        · obtain ⟨z0, z1, z2, z3, z4, z5⟩ := d8.three
          obtain ⟨y0, y1, y2, y3⟩ := d8.swap.two
          have e2 := (d8.swap.s01 (.int .i64 a) (.int .i64 b)).swap.s012 (.int .i64 X) (.int .i64 Y) (.int .i64 1)
          go_wp2
          generalize (World.setCell (World.setCell (World.setCell (World.setCell (World.setCell _ _ _) _ _) _ _) _ _) _ _) = w6 at e2 ⊢
          obtain ⟨q0, q1, q2, _⟩ := e2.three
          obtain ⟨r0, r1, _⟩ := e2.swap.two
          refine bodyPost_ret (v := .tuple #[.agg #[.int .i64 a, .int .i64 b], .agg #[.int .i64 X, .int .i64 Y, .int .i64 1]]) (by simp [results, Try.results50, go_sem, q0, q1, q2, r0, r1]) rfl ?_
          exact ⟨_, _, _, _, rfl, ⟨hq, by omega, by omega⟩, e2.tail.tail.le (by omega)⟩
end
end Go.Proofs.Ytmlfkceafkhlaaa
