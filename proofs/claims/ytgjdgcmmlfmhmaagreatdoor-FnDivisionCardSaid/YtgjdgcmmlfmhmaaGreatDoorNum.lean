/- Walks: numbers. -/
import Derived.Test.YtgjdgcmmlfmhmaaGreatDoorRows
import Derived.Test.YtgjdgcmmlfmhmaaGreatDoorPlain
import Derived.WalkKit
import Derived.WalkSpells
import Derived.WalkLawsBesides
import Derived.Handy
import Derived.BigQuiet
import Derived.Deep.QuietTactic
import Derived.Lib.Hide
namespace Go.Proofs.YtgjdgcmmlfmhmaaGreatDoor
open Go.RowKit

theorem quiet_left {P : Program} {f : FuncId} {args : Array Value} {w : World} {n : Nat} {v : Value}
    (h : Calls P f args (w.drewN n) fun e w' => e = .returned v ∧ w.drewN n = w') : Calls P f args (w.drewN n) fun e w'' => e = .returned v ∧ ∃ m, w'' = w.drewN m :=
  h.mono fun _ _ ⟨he, hm⟩ => ⟨he, n, hm.symm⟩
theorem quiet_draws {P : Program} {f : FuncId} {args : Array Value} {w : World} {n : Nat} {v : Value}
    (h : Calls P f args (w.drewN n) fun e w' => e = .returned v ∧ ∃ k, w' = (w.drewN n).drewN k) : Calls P f args (w.drewN n) fun e w'' => e = .returned v ∧ ∃ m, w'' = w.drewN m :=
  h.mono fun _ _ ⟨he, m, hm⟩ => ⟨he, n + m, by rw [hm, World.drewN_drewN]⟩

theorem c_inside (n lo hi : Int) (w : World) :
    Calls Tryz.prog 27 #[.int .i64 n, .int .i64 lo, .int .i64 hi] w fun e w' => e = .returned (.bool (inB n lo hi)) ∧ w = w' := by
  unfold inB
  go_enter Tryz.func27, Tryz.ntmps27
  go_wp2
  all_goals (go_ret; exact ⟨by simp [*] <;> omega, rfl⟩)
theorem c_l1In (n lo hi : Int) (w : World) :
    Calls Tryz.prog 60 #[.int .i64 n, .int .i64 lo, .int .i64 hi] w fun e w' => e = .returned (.bool (inB n lo hi)) ∧ w = w' := by
  unfold inB
  go_enter Tryz.func60, Tryz.ntmps60
  go_wp2
  all_goals (go_ret; exact ⟨by simp [*] <;> omega, rfl⟩)
theorem c_modulo (a m : Int) (h0 : 0 < m) (h1 : m ≤ 4000000000000000000) (w : World) :
    Calls Tryz.prog 32 #[.int .i64 a, .int .i64 m] w fun e w' => e = .returned (.int .i64 (a % m)) ∧ w = w' := by
  have H := Lib.hid (modulo_eq a m h0 h1)
  go_enter Tryz.func32, Tryz.ntmps32
  go_wp2
  all_goals (go_ret; exact ⟨by simp [H.out], rfl⟩)
theorem c_mdMod (a m : Int) (h0 : 0 < m) (h1 : m ≤ 4000000000000000000) (w : World) :
    Calls Tryz.prog 36 #[.int .i64 a, .int .i64 m] w fun e w' => e = .returned (.int .i64 (a % m)) ∧ w = w' := by
  have H := Lib.hid (modulo_eq a m h0 h1)
  go_enter Tryz.func36, Tryz.ntmps36
  go_wp2
  all_goals (go_ret; exact ⟨by simp [H.out], rfl⟩)
theorem mul_bd (x y p : Int) (hx : 0 ≤ x) (hxp : x ≤ p) (hy : 0 ≤ y) (hyp : y ≤ p) (h1 : p ≤ 3000000000) : 0 ≤ x * y ∧ x * y ≤ 9000000000000000000 := by
  have h2 : x * y ≤ p * p := Int.mul_le_mul hxp hyp hy (by omega)
  have h3 : p * p ≤ 3000000000 * 3000000000 := Int.mul_le_mul h1 h1 (by omega) (by omega)
  exact ⟨Int.mul_nonneg hx hy, by omega⟩
set_option maxHeartbeats 400000 in
theorem c_power (a n p : Int) (h0 : 1 ≤ p) (h1 : p ≤ 3000000000) (h2 : 0 ≤ n) (h3 : n ≤ 4000000000000000000) (w : World) :
    Calls Tryz.prog 68 #[.int .i64 a, .int .i64 n, .int .i64 p] w fun e w' => e = .returned (.int .i64 (powM a n p)) ∧ ∃ k, w' = w.drewN k := by
  go_enter Tryz.func68, Tryz.ntmps68
  go_wp2
  go_quiet ((go_at_call 32; exact quiet_left (c_modulo _ _ (by omega) (by omega) _)))
  go_wp2
  go_loop [7, 8, 1] (fun o b m => ∃ x y k : Int, 0 ≤ x ∧ x < p ∧ 0 ≤ y ∧ y < p ∧ 0 ≤ k ∧ k ≤ 4000000000000000000 ∧ o = .int .i64 x ∧ b = .int .i64 y ∧ m = .int .i64 k ∧ Hid ((x * y ^ k.toNat) % p = a ^ n.toNat % p)) (fun _ _ m => (intOf m).toNat)
  case atStart => 
    refine ⟨_, _, _, ?_, ?_, ?_, ?_, h2, h3, rfl, rfl, rfl, ?_⟩
    · exact Int.emod_nonneg _ (by omega)
    · exact Int.emod_lt_of_pos _ (by omega)
    · exact Int.emod_nonneg _ (by omega)
    · exact Int.emod_lt_of_pos _ (by omega)
    · show _ = _
      rw [Int.mul_emod, pow_mod, Int.emod_emod_of_dvd _ (Int.dvd_refl p), ← Int.mul_emod, Int.one_mul]
  case round =>
    obtain ⟨x, y, k, hx, hxp, hy, hyp, hk, hk4, rfl, rfl, rfl, H⟩ := hrel
    have b1 := mul_bd x y p hx (by omega) hy (by omega) h1
    have b2 := mul_bd y y p hy (by omega) hy (by omega) h1
    have c1 := Int.emod_nonneg (x * y) (show p ≠ 0 by omega)
    have c2 := Int.emod_lt_of_pos (x * y) (show 0 < p by omega)
    have c3 := Int.emod_nonneg (y * y) (show p ≠ 0 by omega)
    have c4 := Int.emod_lt_of_pos (y * y) (show 0 < p by omega)
    by_cases hk0 : 0 < k
    · have HR := Lib.hid (pow_round x y k p hk0)
      by_cases h2 : k % 2 = 1
      · have hb : (k % 2 == 1) = true := by simp [h2]
        rw [if_pos h2] at HR
        clear h2
        go_wp2
        go_round
        case rel => exact ⟨_, _, _, c1, c2, c3, c4, by omega, by omega, rfl, rfl, rfl, HR.out.trans H⟩
        case measure => simp [intOf]; omega
      · have hb : (k % 2 == 1) = false := by simp [h2]
        rw [if_neg h2] at HR
        clear h2
        go_wp2
        go_round
        case rel => exact ⟨_, _, _, hx, hxp, c3, c4, by omega, by omega, rfl, rfl, rfl, HR.out.trans H⟩
        case measure => simp [intOf]; omega
    · go_wp2
      go_ret
      refine ⟨?_, _, rfl⟩
      have : k = 0 := by omega
      subst this
      have := H.out
      simp at this
      unfold powM
      rw [← this, Int.emod_eq_of_lt hx hxp]; rfl
set_option maxHeartbeats 400000 in
theorem c_mdPower (a n p : Int) (h0 : 1 ≤ p) (h1 : p ≤ 3000000000) (h2 : 0 ≤ n) (h3 : n ≤ 4000000000000000000) (w : World) :
    Calls Tryz.prog 72 #[.int .i64 a, .int .i64 n, .int .i64 p] w fun e w' => e = .returned (.int .i64 (powM a n p)) ∧ w = w' := by
  go_enter Tryz.func72, Tryz.ntmps72
  go_wp2_with (go_at_call 36; refine (c_mdMod _ _ (by omega) (by omega) _).mono ?_; rintro e w' ⟨rfl, rfl⟩)
  go_loop [7, 8, 1] (fun o b m => ∃ x y k : Int, 0 ≤ x ∧ x ≤ p ∧ 0 ≤ y ∧ y < p ∧ 0 ≤ k ∧ k ≤ 4000000000000000000 ∧ o = .int .i64 x ∧ b = .int .i64 y ∧ m = .int .i64 k ∧ Hid ((x * y ^ k.toNat) % p = a ^ n.toNat % p)) (fun _ _ m => (intOf m).toNat)
  case atStart => 
    refine ⟨1, _, _, ?_, ?_, ?_, ?_, h2, h3, rfl, rfl, rfl, ?_⟩
    · omega
    · omega
    · exact Int.emod_nonneg _ (by omega)
    · exact Int.emod_lt_of_pos _ (by omega)
    · show _ = _
      rw [Int.one_mul, pow_mod]
  case round =>
    obtain ⟨x, y, k, hx, hxp, hy, hyp, hk, hk4, rfl, rfl, rfl, H⟩ := hrel
    have b1 := mul_bd x y p hx (by omega) hy (by omega) h1
    have b2 := mul_bd y y p hy (by omega) hy (by omega) h1
    have c1 := Int.emod_nonneg (x * y) (show p ≠ 0 by omega)
    have c2 := Int.emod_lt_of_pos (x * y) (show 0 < p by omega)
    have c3 := Int.emod_nonneg (y * y) (show p ≠ 0 by omega)
    have c4 := Int.emod_lt_of_pos (y * y) (show 0 < p by omega)
    by_cases hk0 : 0 < k
    · have HR := Lib.hid (pow_round x y k p hk0)
      by_cases h2 : k % 2 = 1
      · have hb : (k % 2 == 1) = true := by simp [h2]
        rw [if_pos h2] at HR
        clear h2
        go_wp2
        go_round
        case rel => exact ⟨_, _, _, c1, by omega, c3, c4, by omega, by omega, rfl, rfl, rfl, HR.out.trans H⟩
        case measure => simp [intOf]; omega
      · have hb : (k % 2 == 1) = false := by simp [h2]
        rw [if_neg h2] at HR
        clear h2
        go_wp2
        go_round
        case rel => exact ⟨_, _, _, hx, hxp, c3, c4, by omega, by omega, rfl, rfl, rfl, HR.out.trans H⟩
        case measure => simp [intOf]; omega
    · go_wp2
      go_ret
      refine ⟨?_, rfl⟩
      have : k = 0 := by omega
      subst this
      have := H.out
      simp at this
      unfold powM
      rw [← this]; rfl
end Go.Proofs.YtgjdgcmmlfmhmaaGreatDoor
