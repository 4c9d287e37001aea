/- Walks: points of a curve. -/
import Derived.Test.YtcnfjapoopdiaaaSort
namespace Go.Proofs.Ytcnfjapoopdiaaa
open Go.RowKit

def cvV (A B x e : Int) : Int := x * x * x + A * x * e * e * e * e + B * e * e * e * e * e * e
theorem mulq {x y : Int} {a b : Int} (hx : -a ≤ x ∧ x ≤ a) (hy : -b ≤ y ∧ y ≤ b) : -(a * b) ≤ x * y ∧ x * y ≤ a * b := mulb a b hx hy
theorem cv_bd {A B x e : Int} (hA : -1000 ≤ A ∧ A ≤ 1000) (hB : -10000 ≤ B ∧ B ≤ 10000) (hx : -10000 ≤ x ∧ x ≤ 10000) (he : 1 ≤ e ∧ e ≤ 20) :
    (1 ≤ e * e ∧ e * e ≤ 400) ∧ (-100000000 ≤ x * x ∧ x * x ≤ 100000000) ∧ (-1000000000000 ≤ x * x * x ∧ x * x * x ≤ 1000000000000) ∧
    (-10000000 ≤ A * x ∧ A * x ≤ 10000000) ∧ (-200000000 ≤ A * x * e ∧ A * x * e ≤ 200000000) ∧ (-4000000000 ≤ A * x * e * e ∧ A * x * e * e ≤ 4000000000) ∧ (-80000000000 ≤ A * x * e * e * e ∧ A * x * e * e * e ≤ 80000000000) ∧ (-1600000000000 ≤ A * x * e * e * e * e ∧ A * x * e * e * e * e ≤ 1600000000000) ∧
    (-200000 ≤ B * e ∧ B * e ≤ 200000) ∧ (-4000000 ≤ B * e * e ∧ B * e * e ≤ 4000000) ∧ (-80000000 ≤ B * e * e * e ∧ B * e * e * e ≤ 80000000) ∧ (-1600000000 ≤ B * e * e * e * e ∧ B * e * e * e * e ≤ 1600000000) ∧ (-32000000000 ≤ B * e * e * e * e * e ∧ B * e * e * e * e * e ≤ 32000000000) ∧ (-640000000000 ≤ B * e * e * e * e * e * e ∧ B * e * e * e * e * e * e ≤ 640000000000) := by
  have he' : -20 ≤ e ∧ e ≤ 20 := by omega
  have h0 : 1 * 1 ≤ e * e := Int.mul_le_mul he.1 he.1 (by omega) (by omega)
  have h1 := mulq he' he'
  have h2 := mulq hx hx
  have h3 := mulq (a := 100000000) h2 hx
  have h4 := mulq hA hx
  have h5 := mulq (a := 10000000) h4 he'
  have h6 := mulq (a := 200000000) h5 he'
  have h7 := mulq (a := 4000000000) h6 he'
  have h8 := mulq (a := 80000000000) h7 he'
  have k1 := mulq hB he'
  have k2 := mulq (a := 200000) k1 he'
  have k3 := mulq (a := 4000000) k2 he'
  have k4 := mulq (a := 80000000) k3 he'
  have k5 := mulq (a := 1600000000) k4 he'
  have k6 := mulq (a := 32000000000) k5 he'
  omega
set_option maxHeartbeats 1000000 in
theorem c_curveValue (A B x e : Int) (hA : -1000 ≤ A ∧ A ≤ 1000) (hB : -10000 ≤ B ∧ B ≤ 10000) (hx : -10000 ≤ x ∧ x ≤ 10000) (he : 1 ≤ e ∧ e ≤ 20) (w : World) :
    Calls Try.prog 79 #[.agg #[.int .i64 A, .int .i64 B], .int .i64 x, .int .i64 e] w fun r w' => r = .returned (.int .i64 (cvV A B x e)) ∧ Below w.heap.size w w' := by
  obtain ⟨a1, a2, a3, a4, a5, a6, a7, a8, b1, b2, b3, b4, b5, b6⟩ := cv_bd hA hB hx he
  go_enter Try.func79, Try.ntmps79
  go_wp2
  go_ret
  refine ⟨rfl, ?_⟩
  (repeat' (first | (with_reducible exact Below.refl _ _) | (with_reducible refine below_step (by assumption) ?_ ?_) | (with_reducible refine Below.alloc ?_ ?_ _) | (with_reducible refine Below.setCell ?_ ?_ _) | (with_reducible refine below_drewN ?_ _) | (with_reducible refine Below.drew ?_) | omega | (simp; omega) | (simp; done)))
set_option maxHeartbeats 1000000 in
theorem c_ptValue (A B x e : Int) (hA : -1000 ≤ A ∧ A ≤ 1000) (hB : -10000 ≤ B ∧ B ≤ 10000) (hx : -10000 ≤ x ∧ x ≤ 10000) (he : 1 ≤ e ∧ e ≤ 20) (w : World) :
    Calls Try.prog 73 #[.agg #[.int .i64 A, .int .i64 B], .int .i64 x, .int .i64 e] w fun r w' => r = .returned (.int .i64 (cvV A B x e)) ∧ Below w.heap.size w w' := by
  obtain ⟨a1, a2, a3, a4, a5, a6, a7, a8, b1, b2, b3, b4, b5, b6⟩ := cv_bd hA hB hx he
  have e1 : A * x * (e * e) = A * x * e * e := by ac_rfl
  have e2 : A * x * (e * e) * (e * e) = A * x * e * e * e * e := by ac_rfl
  have e3 : B * (e * e) = B * e * e := by ac_rfl
  have e4 : B * (e * e) * (e * e) = B * e * e * e * e := by ac_rfl
  have e5 : B * (e * e) * (e * e) * (e * e) = B * e * e * e * e * e * e := by ac_rfl
  have g1 : -4000000000 ≤ A * x * (e * e) ∧ A * x * (e * e) ≤ 4000000000 := by rw [e1]; exact a6
  have g2 : -1600000000000 ≤ A * x * (e * e) * (e * e) ∧ A * x * (e * e) * (e * e) ≤ 1600000000000 := by rw [e2]; exact a8
  have g3 : -4000000 ≤ B * (e * e) ∧ B * (e * e) ≤ 4000000 := by rw [e3]; exact b2
  have g4 : -1600000000 ≤ B * (e * e) * (e * e) ∧ B * (e * e) * (e * e) ≤ 1600000000 := by rw [e4]; exact b4
  have g5 : -640000000000 ≤ B * (e * e) * (e * e) * (e * e) ∧ B * (e * e) * (e * e) * (e * e) ≤ 640000000000 := by rw [e5]; exact b6
  have HV : Hid (cvV A B x e = x * x * x + A * x * (e * e) * (e * e) + B * (e * e) * (e * e) * (e * e)) := by show _ = _; unfold cvV; rw [e2, e5]
  rw [HV.out]
  clear e1 e2 e3 e4 e5
  go_enter Try.func73, Try.ntmps73
  go_wp2
  go_ret
  refine ⟨rfl, ?_⟩
  (repeat' (first | (with_reducible exact Below.refl _ _) | (with_reducible refine below_step (by assumption) ?_ ?_) | (with_reducible refine Below.alloc ?_ ?_ _) | (with_reducible refine Below.setCell ?_ ?_ _) | (with_reducible refine below_drewN ?_ _) | (with_reducible refine Below.drew ?_) | omega | (simp; omega) | (simp; done)))
def finB (A B X Y E : Int) : Bool := inB X (-10000) 10000 && inB E 1 20 && (gcdI X E == 1) && inB Y (-3000000) 3000000 && (Y * Y == cvV A B X E)
def ptF (A B X Y E : Int) : Bool := (X == 0 && Y == 0 && E == 0) || finB A B X Y E
theorem cv_lt {A B x e : Int} (hA : -1000 ≤ A ∧ A ≤ 1000) (hB : -10000 ≤ B ∧ B ≤ 10000) (hx : -10000 ≤ x ∧ x ≤ 10000) (he : 1 ≤ e ∧ e ≤ 20) : -4000000000000 ≤ cvV A B x e ∧ cvV A B x e ≤ 4000000000000 := by
  obtain ⟨_, _, a3, _, _, _, _, a8, _, _, _, _, _, b6⟩ := cv_bd hA hB hx he
  unfold cvV
  omega
theorem y_small {A B x e Y : Int} (hA : -1000 ≤ A ∧ A ≤ 1000) (hB : -10000 ≤ B ∧ B ≤ 10000) (hx : -10000 ≤ x ∧ x ≤ 10000) (he : 1 ≤ e ∧ e ≤ 20) : (inB Y (-10000000) 10000000 && (Y * Y == cvV A B x e)) = (inB Y (-3000000) 3000000 && (Y * Y == cvV A B x e)) := by
  have hv := cv_lt hA hB hx he
  cases hq : (Y * Y == cvV A B x e)
  · simp
  · have hy : Y * Y = cvV A B x e := by simpa using hq
    have hb : -3000000 ≤ Y ∧ Y ≤ 3000000 := by
      constructor
      · rcases Int.lt_or_le Y (-3000000) with h | h
        · have := Int.mul_le_mul (show 3000000 ≤ -Y by omega) (show 3000000 ≤ -Y by omega) (by omega) (by omega)
          rw [Int.neg_mul_neg] at this; omega
        · exact h
      · rcases Int.lt_or_le 3000000 Y with h | h
        · have := Int.mul_le_mul (show 3000000 ≤ Y by omega) (show 3000000 ≤ Y by omega) (by omega) (by omega)
          omega
        · exact h
    rw [inB_mk (by omega) (by omega), inB_mk hb.1 hb.2]
end Go.Proofs.Ytcnfjapoopdiaaa
