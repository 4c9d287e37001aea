/- Walks: twist numbers, steps. -/
import Derived.Test.YtcnfjapoopdiaaaSqf
namespace Go.Proofs.Ytcnfjapoopdiaaa
open Go.RowKit

noncomputable def twistB (d : Int) : Bool := inB d (-30) 30 && !(d == 0) && freeB d
noncomputable def stepB (k v : Int) : Bool := if k = 0 ∨ k = 1 then inB v 2 5 else if k = 2 ∨ k = 3 then twistB v && !(v == 1) else false
def maxI (a b : Int) : Int := if b < a then a else b
def signI (a : Int) : Int := if 0 < a then 1 else if a < 0 then -1 else 0
theorem maxI_abs (a : Int) : maxI a (-a) = a.natAbs := by unfold maxI; split <;> omega
theorem c_l1Most (a b : Int) (w : World) :
    Calls Try.prog 65 #[.int .i64 a, .int .i64 b] w fun e w' => e = .returned (.int .i64 (maxI a b)) ∧ w = w' := by
  unfold maxI
  by_cases h : b < a
  · rw [if_pos h]
    go_enter Try.func65, Try.ntmps65
    go_wp2
    go_ret
    exact ⟨rfl, rfl⟩
  · rw [if_neg h]
    go_enter Try.func65, Try.ntmps65
    go_wp2
    go_ret
    exact ⟨rfl, rfl⟩
theorem c_l1Abs (a : Int) (ha : -4000000000000000000 ≤ a ∧ a ≤ 4000000000000000000) (w : World) :
    Calls Try.prog 72 #[.int .i64 a] w fun e w' => e = .returned (.int .i64 a.natAbs) ∧ w = w' := by
  have H := Lib.hid (maxI_abs a)
  go_enter Try.func72, Try.ntmps72
  go_wp2_with ((go_at_call 65; refine (c_l1Most _ _ _).mono ?_; rintro e w' ⟨rfl, rfl⟩))
  go_ret
  exact ⟨by rw [← H.out]; rfl, rfl⟩
theorem c_l1Sign (a : Int) (w : World) :
    Calls Try.prog 93 #[.int .i64 a] w fun e w' => e = .returned (.int .i64 (signI a)) ∧ w = w' := by
  unfold signI
  by_cases h : 0 < a
  · rw [if_pos h]
    go_enter Try.func93, Try.ntmps93
    go_wp2
    go_ret
    exact ⟨rfl, rfl⟩
  · rw [if_neg h]
    by_cases h2 : a < 0
    · rw [if_pos h2]
      go_enter Try.func93, Try.ntmps93
      go_wp2
      go_ret
      exact ⟨rfl, rfl⟩
    · rw [if_neg h2]
      go_enter Try.func93, Try.ntmps93
      go_wp2
      go_ret
      exact ⟨rfl, rfl⟩
end Go.Proofs.Ytcnfjapoopdiaaa
