/- Walks: the greatest common divisor. -/
import Derived.Test.YtpnpidepkfnofaaNum
import Derived.BigRegion
import Derived.Deep.RegionHeld3
import Derived.BigQuiet
namespace Go.Proofs.Ytpnpidepkfnofaa
open Go.RowKit

def gcdI (a b : Int) : Int := (Int.gcd a b : Nat)
theorem gcdI_zero (a : Int) : gcdI a 0 = a.natAbs := by simp [gcdI]
theorem gcdI_tmod (a b : Int) : gcdI b (a.tmod b) = gcdI a b := by
  show ((Nat.gcd b.natAbs (a.tmod b).natAbs : Nat) : Int) = (Nat.gcd a.natAbs b.natAbs : Nat)
  rw [Int.natAbs_tmod, Nat.gcd_comm, ← Nat.gcd_rec, Nat.gcd_comm]
theorem gcdI_bd (a b : Int) (h : a ≠ 0 ∨ b ≠ 0) : 1 ≤ gcdI a b ∧ (a ≠ 0 → gcdI a b ≤ a.natAbs) ∧ (b ≠ 0 → gcdI a b ≤ b.natAbs) := by
  unfold gcdI
  have h0 : 0 < Int.gcd a b := Int.gcd_pos_iff.2 h
  refine ⟨by omega, fun ha => ?_, fun hb => ?_⟩
  · have := Nat.le_of_dvd (by omega) (show Int.gcd a b ∣ a.natAbs from Nat.gcd_dvd_left a.natAbs b.natAbs)
    omega
  · have := Nat.le_of_dvd (by omega) (show Int.gcd a b ∣ b.natAbs from Nat.gcd_dvd_right a.natAbs b.natAbs)
    omega
theorem tmod_lt {x y : Int} (hy : y ≠ 0) : (x.tmod y).natAbs < y.natAbs := by rw [Int.natAbs_tmod]; exact Nat.mod_lt _ (by omega)
theorem tmod_abs (x y : Int) : (x.tmod y).natAbs ≤ x.natAbs := by rw [Int.natAbs_tmod]; exact Nat.mod_le _ _
theorem c_gcd (a b : Int) (ha : -9000000000000000000 ≤ a ∧ a ≤ 9000000000000000000) (hb : -9000000000000000000 ≤ b ∧ b ≤ 9000000000000000000) (w : World) :
    Calls Try.prog 53 #[.int .i64 a, .int .i64 b] w fun e w' => e = .returned (.int .i64 (gcdI a b)) ∧ ∃ k, w' = w.drewN k := by
  go_enter Try.func53, Try.ntmps53
  go_wp2
  go_loopw [0, 1] (fun x y wr => ∃ c d : Int, x = .int .i64 c ∧ y = .int .i64 d ∧ (-9000000000000000000 ≤ c ∧ c ≤ 9000000000000000000) ∧ (-9000000000000000000 ≤ d ∧ d ≤ 9000000000000000000) ∧ Hid (gcdI c d = gcdI a b) ∧ ∃ k, wr = w.drewN k) (fun _ y _ => (intOf y).natAbs)
  case atStart => exact ⟨a, b, rfl, rfl, ha, hb, rfl, 0, rfl⟩
  case round =>
    obtain ⟨c, d, rfl, rfl, hc, hd, H, k, rfl⟩ := hrel
    by_cases h0 : d = 0
    · subst h0
      have HE : Hid (gcdI a b = c.natAbs) := by show _ = _; rw [← H.out, gcdI_zero]
      clear H
      rcases Int.lt_or_le c 0 with hs | hs
      · have hm : (c.natAbs : Int) = -c := by omega
        go_wp2
        go_ret
        exact ⟨by rw [HE.out, hm]; simp, k, rfl⟩
      · have hm : (c.natAbs : Int) = c := by omega
        go_wp2
        go_ret
        exact ⟨by rw [HE.out, hm]; simp, k, rfl⟩
    · have HE : Hid (gcdI d (c.tmod d) = gcdI a b) := by show _ = _; rw [gcdI_tmod]; exact H.out
      have b1 := tmod_lt (x := c) h0
      have hd0 : (d == 0) = false := by simpa using h0
      clear H
      go_wp2
      go_region
      all_goals go_wp2
      all_goals
        go_roundw
        case rel => exact ⟨d, c.tmod d, by go_num, by go_num, by omega, by omega, HE, k + 1, rfl⟩
        case measure => exact b1
end Go.Proofs.Ytpnpidepkfnofaa
