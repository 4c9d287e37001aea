/- Walks: greatest common divisors, fractions. -/
import Derived.Test.YtbmcabphjfpkhaaGreatFac
import Derived.Test.YtbmcabphjfpkhaaGreatTwist
import Derived.BigRegion
import Derived.Deep.RegionHeld3
import Derived.BigQuiet
namespace Go.Proofs.YtbmcabphjfpkhaaGreat
open Go.RowKit

def gcdI (a b : Int) : Int := (Int.gcd a b : Nat)
theorem gcdI_zero (a : Int) : gcdI a 0 = a.natAbs := by simp [gcdI]
theorem gcdI_tmod (a b : Int) : gcdI b (a.tmod b) = gcdI a b := by
  show ((Nat.gcd b.natAbs (a.tmod b).natAbs : Nat) : Int) = (Nat.gcd a.natAbs b.natAbs : Nat)
  rw [Int.natAbs_tmod, Nat.gcd_comm, ← Nat.gcd_rec, Nat.gcd_comm]
theorem gcdI_bd (a b : Int) (h : a ≠ 0 ∨ b ≠ 0) : 1 ≤ gcdI a b ∧ (a ≠ 0 → gcdI a b ≤ a.natAbs) ∧ (b ≠ 0 → gcdI a b ≤ b.natAbs) := by
  unfold gcdI
  have h0 : 0 < Int.gcd a b := Int.gcd_pos_iff.2 h
  refine ⟨by omega, fun ha => ?_, fun hb => ?_⟩
  · have := Nat.le_of_dvd (by omega) (show Int.gcd a b ∣ a.natAbs from Nat.gcd_dvd_left a.natAbs b.natAbs)
    omega
  · have := Nat.le_of_dvd (by omega) (show Int.gcd a b ∣ b.natAbs from Nat.gcd_dvd_right a.natAbs b.natAbs)
    omega
theorem tmod_lt {x y : Int} (hy : y ≠ 0) : (x.tmod y).natAbs < y.natAbs := by rw [Int.natAbs_tmod]; exact Nat.mod_lt _ (by omega)
theorem tmod_abs (x y : Int) : (x.tmod y).natAbs ≤ x.natAbs := by rw [Int.natAbs_tmod]; exact Nat.mod_le _ _
theorem c_bgCommon (a b : Int) (ha : 0 ≤ a ∧ a ≤ 9000000000000000000) (hb : 0 ≤ b ∧ b ≤ 9000000000000000000) (w : World) :
    Calls Tryz.prog 55 #[.int .i64 a, .int .i64 b] w fun e w' => e = .returned (.int .i64 (gcdI a b)) ∧ w = w' := by
  go_enter Tryz.func55, Tryz.ntmps55
  go_wp2
  go_loop [0, 1] (fun x y => ∃ c d : Int, x = .int .i64 c ∧ y = .int .i64 d ∧ (0 ≤ c ∧ c ≤ 9000000000000000000) ∧ (0 ≤ d ∧ d ≤ 9000000000000000000) ∧ Hid (gcdI c d = gcdI a b)) (fun _ y => (intOf y).toNat)
  case atStart => exact ⟨a, b, rfl, rfl, ha, hb, rfl⟩
  case round =>
    obtain ⟨c, d, rfl, rfl, hc, hd, H⟩ := hrel
    by_cases h0 : d = 0
    · subst h0
      have HE : Hid (gcdI a b = c) := by show _ = _; rw [← H.out, gcdI_zero]; omega
      clear H
      go_wp2
      go_ret
      exact ⟨by rw [HE.out]; rfl, rfl⟩
    · have e := Int.tmod_eq_emod_of_nonneg (b := d) hc.1
      have HE : Hid (gcdI d (c % d) = gcdI a b) := by show _ = _; rw [← e, gcdI_tmod]; exact H.out
      have b1 := Int.emod_nonneg c h0
      have b2 := Int.emod_lt_of_pos c (show 0 < d by omega)
      have hd0 : (d == 0) = false := by simpa using h0
      clear H e
      go_wp2
      go_round
      case rel => exact ⟨d, c % d, rfl, rfl, by omega, by omega, HE⟩
      case measure => simp [intOf]; omega
theorem c_gcd (a b : Int) (ha : -9000000000000000000 ≤ a ∧ a ≤ 9000000000000000000) (hb : -9000000000000000000 ≤ b ∧ b ≤ 9000000000000000000) (w : World) :
    Calls Tryz.prog 52 #[.int .i64 a, .int .i64 b] w fun e w' => e = .returned (.int .i64 (gcdI a b)) ∧ ∃ k, w' = w.drewN k := by
  go_enter Tryz.func52, Tryz.ntmps52
  go_wp2
  go_loopw [0, 1] (fun x y wr => ∃ c d : Int, x = .int .i64 c ∧ y = .int .i64 d ∧ (-9000000000000000000 ≤ c ∧ c ≤ 9000000000000000000) ∧ (-9000000000000000000 ≤ d ∧ d ≤ 9000000000000000000) ∧ Hid (gcdI c d = gcdI a b) ∧ ∃ k, wr = w.drewN k) (fun _ y _ => (intOf y).natAbs)
  case atStart => exact ⟨a, b, rfl, rfl, ha, hb, rfl, 0, rfl⟩
  case round =>
    obtain ⟨c, d, rfl, rfl, hc, hd, H, k, rfl⟩ := hrel
    by_cases h0 : d = 0
    · subst h0
      have HE : Hid (gcdI a b = c.natAbs) := by show _ = _; rw [← H.out, gcdI_zero]
      clear H
      rcases Int.lt_or_le c 0 with hs | hs
      · have hm : (c.natAbs : Int) = -c := by omega
        go_wp2
        go_ret
        exact ⟨by rw [HE.out, hm]; simp, k, rfl⟩
      · have hm : (c.natAbs : Int) = c := by omega
        go_wp2
        go_ret
        exact ⟨by rw [HE.out, hm]; simp, k, rfl⟩
    · have HE : Hid (gcdI d (c.tmod d) = gcdI a b) := by show _ = _; rw [gcdI_tmod]; exact H.out
      have b1 := tmod_lt (x := c) h0
      have hd0 : (d == 0) = false := by simpa using h0
      clear H
      go_wp2
      go_region
      all_goals go_wp2
      all_goals
        go_roundw
        case rel => exact ⟨d, c.tmod d, by go_num, by go_num, by omega, by omega, HE, k + 1, rfl⟩
        case measure => exact b1
/-! fractions -/
def frOk (n d : Int) : Bool := inB d 1 1000000000 && inB n (-1000000000) 1000000000 && gcdI n d == 1
def mkG (n d : Int) : Int := if d < 0 then -gcdI n d else gcdI n d
def mkN (n d : Int) : Int := n.tdiv (mkG n d)
def mkD (n d : Int) : Int := d.tdiv (mkG n d)
def mkOk (n d : Int) : Bool := frOk (mkN n d) (mkD n d)
theorem frOk_of {n d : Int} (h : frOk n d = true) : (1 ≤ d ∧ d ≤ 1000000000) ∧ (-1000000000 ≤ n ∧ n ≤ 1000000000) := by
  unfold frOk at h
  simp only [Bool.and_eq_true] at h
  exact ⟨inB_true h.1.1, inB_true h.1.2⟩
theorem gcdI_abs (a b : Int) : gcdI a.natAbs b.natAbs = gcdI a b := by simp [gcdI, Int.gcd]
theorem gcdI_absl (a b : Int) : gcdI a.natAbs b = gcdI a b := by simp [gcdI, Int.gcd]
theorem tdiv_abs (n g : Int) : (n.tdiv g).natAbs ≤ n.natAbs := by rw [Int.natAbs_tdiv]; exact Nat.div_le_self _ _
theorem mk_facts {n d : Int} (hd : d ≠ 0) (hn : -4000000000000000000 ≤ n ∧ n ≤ 4000000000000000000) (hd' : -4000000000000000000 ≤ d ∧ d ≤ 4000000000000000000) :
    mkG n d ≠ 0 ∧ (1 ≤ gcdI n d ∧ gcdI n d ≤ 4000000000000000000) ∧ (-4000000000000000000 ≤ mkN n d ∧ mkN n d ≤ 4000000000000000000) ∧ (-4000000000000000000 ≤ mkD n d ∧ mkD n d ≤ 4000000000000000000) := by
  obtain ⟨g1, _, g2⟩ := gcdI_bd n d (.inr hd)
  have g3 := g2 hd
  have a1 := tdiv_abs n (mkG n d)
  have a2 := tdiv_abs d (mkG n d)
  refine ⟨by unfold mkG; split <;> omega, by omega, ?_, ?_⟩
  · unfold mkN; omega
  · unfold mkD; omega
def mOk (n d : Int) : Bool := !(d == 0) && mkOk n d
def rsI (o : Bool) (A : Int) : Int := if o then A else 0
end Go.Proofs.YtbmcabphjfpkhaaGreat
