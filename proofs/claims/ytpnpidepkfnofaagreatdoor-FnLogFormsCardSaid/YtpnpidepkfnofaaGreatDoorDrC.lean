/- Walks: curves drawn (curve, anyCurve, pointed), primes drawn. -/
import Derived.Test.YtpnpidepkfnofaaGreatDoorDr
import Derived.BigRegion
namespace Go.Proofs.YtpnpidepkfnofaaGreatDoor
open Go.RowKit

section
variable {B k n : Nat} {v : Value} {xs : List Int} {w0 w : World} {bl : List (Nat × Array Value × TypeId)}
/-- a curve, drawn -/
def CurveD (B k : Nat) (v : Value) (xs : List Int) (n : Nat) (w0 : World) (bl : List (Nat × Array Value × TypeId)) (q : Int → Int → Prop) (e : Ending) (w' : World) : Prop :=
  ∃ a b : Int, e = .returned (.agg #[.int .i64 a, .int .i64 b]) ∧ q a b ∧ Dr B k v xs n w0 bl w'
set_option maxHeartbeats 1000000 in
theorem d_curve (d : Dr B k v xs n w0 bl w) (hn : n ≤ 700000) : Calls Tryz.prog 94 #[.pointer (some ⟨k, 0, none⟩)] w (CurveD B k v xs (n + 30) w0 bl (fun a b => curveB a b = true)) := by
  have d1 := d.alloc #[.int .i64 0, .int .i64 0] 33
  go_enter Tryz.func94, Tryz.ntmps94
  go_upto_region 1 with (fail)
  generalize w.alloc _ = W at d1 ⊢
  generalize w.heap.size = S at d1 ⊢
  go_wp2_with fail
  refine (d_pick d1 (by omega) 41 (by omega)).mono ?_
  rintro e w2 ⟨x2, rfl, h2, d2⟩
  go_wp2_with fail
  refine (d_pick d2 (by omega) 2001 (by omega)).mono ?_
  rintro e w3 ⟨x3, rfl, h3, d3⟩
  go_wp2_with fail
  refine (d_among d3 (by omega) [-16, -1, 0, 1, -2, -7, -25, 4, x2 - 20, x3 - 1000] (by simp)).mono ?_
  rintro e w4 ⟨a, rfl, h4, d4⟩
  go_wp2_with fail
  refine (d_pick d4 (by omega) 41 (by omega)).mono ?_
  rintro e w5 ⟨x5, rfl, h5, d5⟩
  go_wp2_with fail
  refine (d_pick d5 (by omega) 20001 (by omega)).mono ?_
  rintro e w6 ⟨x6, rfl, h6, d6⟩
  go_wp2_with fail
  refine (d_among d6 (by omega) [16, 0, 0, 1, -1, 10, 36, x5 - 20, x6 - 10000] (by simp)).mono ?_
  rintro e w7 ⟨b, rfl, h7, d7⟩
  have d8 := d7.alloc #[.int .i64 a, .int .i64 b] 33
  clear d1 d2 d3 d4 d5 d6
  go_wp2_with fail
  refine (d_one d8 (by omega) 8 (by omega)).mono ?_
  rintro e w9 ⟨q, rfl, d9⟩
  clear d8
  go_upto_if 24 with (fail)
  generalize w7.heap.size = E at d9 ⊢
  go_cut [] from 4 (fun wc => ∃ a b : Int, Dr B k v xs (n + 20) w0 ((E, #[.int .i64 a, .int .i64 b], 33) :: (S, #[.int .i64 0, .int .i64 0], 33) :: bl) wc)
  case first =>
    cases q
    · go_wp2
      go_meet
      case rel => exact ⟨_, _, d9.le (by omega)⟩
    · go_wp2_with fail
      refine (d_pick d9 (by omega) 21 (by omega)).mono ?_
      rintro e w2 ⟨x2, rfl, h2, d2⟩
      go_wp2_with fail
      refine (d_pick d2 (by omega) 21 (by omega)).mono ?_
      rintro e w3 ⟨x3, rfl, h3, d3⟩
      have c0 := d3.head.cell 0
      have c1 := d3.head.cell 1
      have z0 := d3.head.frozen 0
      have z1 := d3.head.frozen 1
      simp only [List.getElem?_toArray, List.getElem?_cons_zero, List.getElem?_cons_succ] at c0 c1
      go_wp2
      go_meet
      case rel => exact ⟨_, _, ((d3.set 0 _).set 1 _).le (by omega)⟩
  case rest =>
    obtain ⟨a1, b1, d10⟩ := hcut
    clear d9 h4 h7
    go_wp2_with fail
    refine (d_one d10 (by omega) 16 (by omega)).mono ?_
    rintro e w11 ⟨q, rfl, d11⟩
    clear d10
    go_upto_if 35 with (fail)
    go_cut [] from 4 (fun wc => ∃ a b : Int, Dr B k v xs (n + 26) w0 ((E, #[.int .i64 a, .int .i64 b], 33) :: (S, #[.int .i64 0, .int .i64 0], 33) :: bl) wc)
    case first =>
      cases q
      · go_wp2
        go_meet
        case rel => exact ⟨_, _, d11.le (by omega)⟩
      · go_wp2_with fail
        refine (d_among d11 (by omega) [-1000, 1000] (by simp)).mono ?_
        rintro e w2 ⟨x2, rfl, h2, d2⟩
        go_wp2_with fail
        refine (d_among d2 (by omega) [-10000, 10000] (by simp)).mono ?_
        rintro e w3 ⟨x3, rfl, h3, d3⟩
        have c0 := d3.head.cell 0
        have c1 := d3.head.cell 1
        have z0 := d3.head.frozen 0
        have z1 := d3.head.frozen 1
        simp only [List.getElem?_toArray, List.getElem?_cons_zero, List.getElem?_cons_succ] at c0 c1
        go_wp2
        go_meet
        case rel => exact ⟨_, _, ((d3.set 0 _).set 1 _).le (by omega)⟩
    case rest =>
      obtain ⟨a2, b2, d12⟩ := hcut
      clear d11
      have c0 := d12.head.cell 0
      have c1 := d12.head.cell 1
      have y0 := d12.swap.head.cell 0
      have y1 := d12.swap.head.cell 1
      simp only [List.getElem?_toArray, List.getElem?_cons_zero, List.getElem?_cons_succ] at c0 c1 y0 y1
      go_wp2_with fail
      have HG := Lib.hid (fun W => c_ecGood a2 b2 W)
      refine (HG.out _).mono ?_
      rintro e w13 ⟨rfl, hb13⟩
      have d13 := d12.below hb13
      clear d12 c0 c1 y0 y1 HG
      have c0 := d13.head.cell 0
      have c1 := d13.head.cell 1
      have y0 := d13.swap.head.cell 0
      have y1 := d13.swap.head.cell 1
      have z0 := d13.swap.head.frozen 0
      have z1 := d13.swap.head.frozen 1
      simp only [List.getElem?_toArray, List.getElem?_cons_zero, List.getElem?_cons_succ] at c0 c1 y0 y1
      cases hq : curveB a2 b2
      · have d14 := (d13.swap.set 0 (.int .i64 (-16))).set 1 (.int .i64 16)
        go_wp2
        generalize (w13.setCell _ _).setCell _ _ = w14 at d14 ⊢
        have q0 := d14.head.cell 0
        have q1 := d14.head.cell 1
        simp only [List.setIfInBounds_toArray, List.set_cons_zero, List.set_cons_succ, List.getElem?_toArray, List.getElem?_cons_zero, List.getElem?_cons_succ] at q0 q1
        refine bodyPost_ret (v := .agg #[.int .i64 (-16), .int .i64 16]) (by simp [results, Tryz.results94, go_sem, q0, q1]) rfl ?_
        exact ⟨_, _, rfl, by decide, d14.tail.tail.le (by omega)⟩
      · have d14 := (d13.swap.set 0 (.int .i64 a2)).set 1 (.int .i64 b2)
        go_wp2
        generalize (w13.setCell _ _).setCell _ _ = w14 at d14 ⊢
        have q0 := d14.head.cell 0
        have q1 := d14.head.cell 1
        simp only [List.setIfInBounds_toArray, List.set_cons_zero, List.set_cons_succ, List.getElem?_toArray, List.getElem?_cons_zero, List.getElem?_cons_succ] at q0 q1
        refine bodyPost_ret (v := .agg #[.int .i64 a2, .int .i64 b2]) (by simp [results, Tryz.results94, go_sem, q0, q1]) rfl ?_
        exact ⟨_, _, rfl, hq, d14.tail.tail.le (by omega)⟩
end
end Go.Proofs.YtpnpidepkfnofaaGreatDoor
