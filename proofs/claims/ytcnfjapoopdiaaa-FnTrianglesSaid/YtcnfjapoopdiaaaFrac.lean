/- Walks: greatest common divisors, fractions. -/
import Derived.Test.YtcnfjapoopdiaaaFac
import Derived.Test.YtcnfjapoopdiaaaTwist
import Derived.BigRegion
import Derived.Deep.RegionHeld3
import Derived.BigQuiet
namespace Go.Proofs.Ytcnfjapoopdiaaa
open Go.RowKit

def gcdI (a b : Int) : Int := (Int.gcd a b : Nat)
theorem gcdI_zero (a : Int) : gcdI a 0 = a.natAbs := by simp [gcdI]
theorem gcdI_tmod (a b : Int) : gcdI b (a.tmod b) = gcdI a b := by
  show ((Nat.gcd b.natAbs (a.tmod b).natAbs : Nat) : Int) = (Nat.gcd a.natAbs b.natAbs : Nat)
  rw [Int.natAbs_tmod, Nat.gcd_comm, ← Nat.gcd_rec, Nat.gcd_comm]
theorem gcdI_bd (a b : Int) (h : a ≠ 0 ∨ b ≠ 0) : 1 ≤ gcdI a b ∧ (a ≠ 0 → gcdI a b ≤ a.natAbs) ∧ (b ≠ 0 → gcdI a b ≤ b.natAbs) := by
  unfold gcdI
  have h0 : 0 < Int.gcd a b := Int.gcd_pos_iff.2 h
  refine ⟨by omega, fun ha => ?_, fun hb => ?_⟩
  · have := Nat.le_of_dvd (by omega) (show Int.gcd a b ∣ a.natAbs from Nat.gcd_dvd_left a.natAbs b.natAbs)
    omega
  · have := Nat.le_of_dvd (by omega) (show Int.gcd a b ∣ b.natAbs from Nat.gcd_dvd_right a.natAbs b.natAbs)
    omega
theorem tmod_lt {x y : Int} (hy : y ≠ 0) : (x.tmod y).natAbs < y.natAbs := by rw [Int.natAbs_tmod]; exact Nat.mod_lt _ (by omega)
theorem tmod_abs (x y : Int) : (x.tmod y).natAbs ≤ x.natAbs := by rw [Int.natAbs_tmod]; exact Nat.mod_le _ _
theorem c_bgCommon (a b : Int) (ha : 0 ≤ a ∧ a ≤ 9000000000000000000) (hb : 0 ≤ b ∧ b ≤ 9000000000000000000) (w : World) :
    Calls Try.prog 71 #[.int .i64 a, .int .i64 b] w fun e w' => e = .returned (.int .i64 (gcdI a b)) ∧ w = w' := by
  go_enter Try.func71, Try.ntmps71
  go_wp2
  go_loop [0, 1] (fun x y => ∃ c d : Int, x = .int .i64 c ∧ y = .int .i64 d ∧ (0 ≤ c ∧ c ≤ 9000000000000000000) ∧ (0 ≤ d ∧ d ≤ 9000000000000000000) ∧ Hid (gcdI c d = gcdI a b)) (fun _ y => (intOf y).toNat)
  case atStart => exact ⟨a, b, rfl, rfl, ha, hb, rfl⟩
  case round =>
    obtain ⟨c, d, rfl, rfl, hc, hd, H⟩ := hrel
    by_cases h0 : d = 0
    · subst h0
      have HE : Hid (gcdI a b = c) := by show _ = _; rw [← H.out, gcdI_zero]; omega
      clear H
      go_wp2
      go_ret
      exact ⟨by rw [HE.out]; rfl, rfl⟩
    · have e := Int.tmod_eq_emod_of_nonneg (b := d) hc.1
      have HE : Hid (gcdI d (c % d) = gcdI a b) := by show _ = _; rw [← e, gcdI_tmod]; exact H.out
      have b1 := Int.emod_nonneg c h0
      have b2 := Int.emod_lt_of_pos c (show 0 < d by omega)
      have hd0 : (d == 0) = false := by simpa using h0
      clear H e
      go_wp2
      go_round
      case rel => exact ⟨d, c % d, rfl, rfl, by omega, by omega, HE⟩
      case measure => simp [intOf]; omega
theorem c_gcd (a b : Int) (ha : -9000000000000000000 ≤ a ∧ a ≤ 9000000000000000000) (hb : -9000000000000000000 ≤ b ∧ b ≤ 9000000000000000000) (w : World) :
    Calls Try.prog 78 #[.int .i64 a, .int .i64 b] w fun e w' => e = .returned (.int .i64 (gcdI a b)) ∧ ∃ k, w' = w.drewN k := by
  go_enter Try.func78, Try.ntmps78
  go_wp2
  go_loopw [0, 1] (fun x y wr => ∃ c d : Int, x = .int .i64 c ∧ y = .int .i64 d ∧ (-9000000000000000000 ≤ c ∧ c ≤ 9000000000000000000) ∧ (-9000000000000000000 ≤ d ∧ d ≤ 9000000000000000000) ∧ Hid (gcdI c d = gcdI a b) ∧ ∃ k, wr = w.drewN k) (fun _ y _ => (intOf y).natAbs)
  case atStart => exact ⟨a, b, rfl, rfl, ha, hb, rfl, 0, rfl⟩
  case round =>
    obtain ⟨c, d, rfl, rfl, hc, hd, H, k, rfl⟩ := hrel
    by_cases h0 : d = 0
    · subst h0
      have HE : Hid (gcdI a b = c.natAbs) := by show _ = _; rw [← H.out, gcdI_zero]
      clear H
      rcases Int.lt_or_le c 0 with hs | hs
      · have hm : (c.natAbs : Int) = -c := by omega
        go_wp2
        go_ret
        exact ⟨by rw [HE.out, hm]; simp, k, rfl⟩
      · have hm : (c.natAbs : Int) = c := by omega
        go_wp2
        go_ret
        exact ⟨by rw [HE.out, hm]; simp, k, rfl⟩
    · have HE : Hid (gcdI d (c.tmod d) = gcdI a b) := by show _ = _; rw [gcdI_tmod]; exact H.out
      have b1 := tmod_lt (x := c) h0
      have hd0 : (d == 0) = false := by simpa using h0
      clear H
      go_wp2
      go_region
      all_goals go_wp2
      all_goals
        go_roundw
        case rel => exact ⟨d, c.tmod d, by go_num, by go_num, by omega, by omega, HE, k + 1, rfl⟩
        case measure => exact b1
/-! fractions -/
def frOk (n d : Int) : Bool := inB d 1 1000000000 && inB n (-1000000000) 1000000000 && gcdI n d == 1
def mkG (n d : Int) : Int := if d < 0 then -gcdI n d else gcdI n d
def mkN (n d : Int) : Int := n.tdiv (mkG n d)
def mkD (n d : Int) : Int := d.tdiv (mkG n d)
def mkOk (n d : Int) : Bool := frOk (mkN n d) (mkD n d)
theorem frOk_of {n d : Int} (h : frOk n d = true) : (1 ≤ d ∧ d ≤ 1000000000) ∧ (-1000000000 ≤ n ∧ n ≤ 1000000000) := by
  unfold frOk at h
  simp only [Bool.and_eq_true] at h
  exact ⟨inB_true h.1.1, inB_true h.1.2⟩
theorem gcdI_abs (a b : Int) : gcdI a.natAbs b.natAbs = gcdI a b := by simp [gcdI, Int.gcd]
theorem gcdI_absl (a b : Int) : gcdI a.natAbs b = gcdI a b := by simp [gcdI, Int.gcd]
theorem tdiv_abs (n g : Int) : (n.tdiv g).natAbs ≤ n.natAbs := by rw [Int.natAbs_tdiv]; exact Nat.div_le_self _ _
set_option maxHeartbeats 1000000 in
theorem c_frGood (n d : Int) (w : World) :
    Calls Try.prog 74 #[.agg #[.int .i64 n, .int .i64 d]] w fun e w' => e = .returned (.bool (frOk n d)) ∧ Below w.heap.size w w' := by
  unfold frOk
  cases h1 : inB d 1 1000000000
  · go_enter Try.func74, Try.ntmps74
    go_wp2
    go_quiet ((go_at_call 53; refine Calls.quiet_of_same ((c_l1In _ _ _ _).mono fun _ _ h => ⟨h.1.trans (by rw [h1]), h.2.symm⟩)))
    all_goals go_wp2
    all_goals
      go_ret
      refine ⟨rfl, ?_⟩
      (repeat' (first | (with_reducible exact Below.refl _ _) | (with_reducible refine below_step (by assumption) ?_ ?_) | (with_reducible refine Below.alloc ?_ ?_ _) | (with_reducible refine Below.setCell ?_ ?_ _) | (with_reducible refine below_drewN ?_ _) | (with_reducible refine Below.drew ?_) | omega | (simp; omega) | (simp; done)))
  · cases h2 : inB n (-1000000000) 1000000000
    · go_enter Try.func74, Try.ntmps74
      go_wp2
      go_quiet (first | (go_at_call 53; refine Calls.quiet_of_same ((c_l1In _ _ _ _).mono fun _ _ h => ⟨h.1.trans (by rw [h1]), h.2.symm⟩)) | (go_at_call 53; refine Calls.quiet_of_same ((c_l1In _ _ _ _).mono fun _ _ h => ⟨h.1.trans (by rw [h2]), h.2.symm⟩)))
      all_goals go_wp2
      all_goals
        go_ret
        refine ⟨rfl, ?_⟩
        (repeat' (first | (with_reducible exact Below.refl _ _) | (with_reducible refine below_step (by assumption) ?_ ?_) | (with_reducible refine Below.alloc ?_ ?_ _) | (with_reducible refine Below.setCell ?_ ?_ _) | (with_reducible refine below_drewN ?_ _) | (with_reducible refine Below.drew ?_) | omega | (simp; omega) | (simp; done)))
    · have b1 := inB_true h1
      have b2 := inB_true h2
      have HG := Lib.hid (gcdI_absl n d)
      rw [← HG.out]
      go_enter Try.func74, Try.ntmps74
      go_wp2
      go_quiet (first | (go_at_call 53; refine Calls.quiet_of_same ((c_l1In _ _ _ _).mono fun _ _ h => ⟨h.1.trans (by rw [h1]), h.2.symm⟩)) | (go_at_call 53; refine Calls.quiet_of_same ((c_l1In _ _ _ _).mono fun _ _ h => ⟨h.1.trans (by rw [h2]), h.2.symm⟩)) | (go_at_call 72; refine Calls.quiet_of_same ((c_l1Abs _ (by omega) _).mono fun _ _ h => ⟨h.1, h.2.symm⟩)) | (go_at_call 71; refine Calls.quiet_of_same ((c_bgCommon _ _ (by omega) (by omega) _).mono fun _ _ h => ⟨h.1, h.2.symm⟩)))
      all_goals go_wp2
      all_goals
        go_ret
        refine ⟨rfl, ?_⟩
        (repeat' (first | (with_reducible exact Below.refl _ _) | (with_reducible refine below_step (by assumption) ?_ ?_) | (with_reducible refine Below.alloc ?_ ?_ _) | (with_reducible refine Below.setCell ?_ ?_ _) | (with_reducible refine below_drewN ?_ _) | (with_reducible refine Below.drew ?_) | omega | (simp; omega) | (simp; done)))
theorem c_isFraction (n d : Int) (w : World) :
    Calls Try.prog 80 #[.agg #[.int .i64 n, .int .i64 d]] w fun e w' => e = .returned (.bool (frOk n d)) ∧ Below w.heap.size w w' := by
  unfold frOk
  cases h1 : inB d 1 1000000000
  · go_enter Try.func80, Try.ntmps80
    go_wp2_with ((go_at_call 66; refine (c_inside _ _ _ _).mono ?_; rintro e w' ⟨rfl, rfl⟩))
    go_ret
    refine ⟨rfl, ?_⟩
    (repeat' (first | (with_reducible exact Below.refl _ _) | (with_reducible refine below_step (by assumption) ?_ ?_) | (with_reducible refine Below.alloc ?_ ?_ _) | (with_reducible refine Below.setCell ?_ ?_ _) | (with_reducible refine below_drewN ?_ _) | (with_reducible refine Below.drew ?_) | omega | (simp; omega) | (simp; done)))
  · cases h2 : inB n (-1000000000) 1000000000
    · go_enter Try.func80, Try.ntmps80
      go_wp2_with ((go_at_call 66; refine (c_inside _ _ _ _).mono ?_; rintro e w' ⟨rfl, rfl⟩))
      go_ret
      refine ⟨rfl, ?_⟩
      (repeat' (first | (with_reducible exact Below.refl _ _) | (with_reducible refine below_step (by assumption) ?_ ?_) | (with_reducible refine Below.alloc ?_ ?_ _) | (with_reducible refine Below.setCell ?_ ?_ _) | (with_reducible refine below_drewN ?_ _) | (with_reducible refine Below.drew ?_) | omega | (simp; omega) | (simp; done)))
    · have b1 := inB_true h1
      have b2 := inB_true h2
      go_enter Try.func80, Try.ntmps80
      go_wp2_with (first | (go_at_call 66; refine (c_inside _ _ _ _).mono ?_; rintro e w' ⟨rfl, rfl⟩) | (go_at_call 78; refine (c_gcd _ _ (by omega) (by omega) _).mono ?_; rintro e w' ⟨rfl, kd, rfl⟩))
      go_ret
      refine ⟨rfl, ?_⟩
      (repeat' (first | (with_reducible exact Below.refl _ _) | (with_reducible refine below_step (by assumption) ?_ ?_) | (with_reducible refine Below.alloc ?_ ?_ _) | (with_reducible refine Below.setCell ?_ ?_ _) | (with_reducible refine below_drewN ?_ _) | (with_reducible refine Below.drew ?_) | omega | (simp; omega) | (simp; done)))
theorem mk_facts {n d : Int} (hd : d ≠ 0) (hn : -4000000000000000000 ≤ n ∧ n ≤ 4000000000000000000) (hd' : -4000000000000000000 ≤ d ∧ d ≤ 4000000000000000000) :
    mkG n d ≠ 0 ∧ (1 ≤ gcdI n d ∧ gcdI n d ≤ 4000000000000000000) ∧ (-4000000000000000000 ≤ mkN n d ∧ mkN n d ≤ 4000000000000000000) ∧ (-4000000000000000000 ≤ mkD n d ∧ mkD n d ≤ 4000000000000000000) := by
  obtain ⟨g1, _, g2⟩ := gcdI_bd n d (.inr hd)
  have g3 := g2 hd
  have a1 := tdiv_abs n (mkG n d)
  have a2 := tdiv_abs d (mkG n d)
  refine ⟨by unfold mkG; split <;> omega, by omega, ?_, ?_⟩
  · unfold mkN; omega
  · unfold mkD; omega
def mOk (n d : Int) : Bool := !(d == 0) && mkOk n d
def rsI (o : Bool) (A : Int) : Int := if o then A else 0
set_option maxHeartbeats 1000000 in
theorem c_frMake (n d : Int) (hn : -4000000000000000000 ≤ n ∧ n ≤ 4000000000000000000) (hd' : -4000000000000000000 ≤ d ∧ d ≤ 4000000000000000000) (w : World) :
    Calls Try.prog 30 #[.int .i64 n, .int .i64 d] w fun e w' => e = .returned (.tuple #[.agg #[.int .i64 (rsI (mOk n d) (mkN n d)), .int .i64 (rsI (mOk n d) (mkD n d))], .bool (mOk n d)]) ∧ Below w.heap.size w w' := by
  unfold mOk
  cases h0 : (d == 0)
  · have hd : d ≠ 0 := by simpa using h0
    obtain ⟨f1, f2, f3, f4⟩ := mk_facts hd hn hd'
    have HA := Lib.hid (gcdI_abs n d)
    have HN : Hid (n.tdiv (mkG n d) = mkN n d) := rfl
    have HD : Hid (d.tdiv (mkG n d) = mkD n d) := rfl
    have f3' : -4000000000000000000 ≤ n.tdiv (mkG n d) ∧ n.tdiv (mkG n d) ≤ 4000000000000000000 := f3
    have f4' : -4000000000000000000 ≤ d.tdiv (mkG n d) ∧ d.tdiv (mkG n d) ≤ 4000000000000000000 := f4
    have f1' : (mkG n d == 0) = false := by simpa using f1
    have HO : Hid (mkOk n d = frOk (n.tdiv (mkG n d)) (d.tdiv (mkG n d))) := rfl
    show Calls Try.prog 30 _ w fun e w' => e = .returned (.tuple #[.agg #[.int .i64 (rsI (mkOk n d) (mkN n d)), .int .i64 (rsI (mkOk n d) (mkD n d))], .bool (mkOk n d)]) ∧ Below w.heap.size w w'
    rw [HO.out, ← HN.out, ← HD.out]
    have hG : (d < 0 ∧ mkG n d = -gcdI n d) ∨ (0 ≤ d ∧ mkG n d = gcdI n d) := by unfold mkG; split <;> omega
    clear HN HD HO hd
    generalize mkG n d = g at *
    obtain ⟨q1, q2, q3, q4⟩ : ((w.alloc (.cells #[.int .i64 0, .int .i64 0] 25)).cell? ⟨w.heap.size, 0, none⟩ = some (.int .i64 0)) ∧ ((w.alloc (.cells #[.int .i64 0, .int .i64 0] 25)).cell? ⟨w.heap.size, 1, none⟩ = some (.int .i64 0)) ∧ ((w.alloc (.cells #[.int .i64 0, .int .i64 0] 25)).frozen? ⟨w.heap.size, 0, none⟩ = false) ∧ ((w.alloc (.cells #[.int .i64 0, .int .i64 0] 25)).frozen? ⟨w.heap.size, 1, none⟩ = false) := ⟨by simp [go_sem], by simp [go_sem], by simp [go_sem], by simp [go_sem]⟩
    have hb0 : Below w.heap.size w (w.alloc (.cells #[.int .i64 0, .int .i64 0] 25)) := (Below.refl _ _).alloc (Nat.le_refl _) _
    have hz0 : w.heap.size < (w.alloc (.cells #[.int .i64 0, .int .i64 0] 25)).heap.size := by simp
    rcases hG with ⟨hs, hg⟩ | ⟨hs, hg⟩
    all_goals
      cases ho : frOk (n.tdiv g) (d.tdiv g)
      · go_enter Try.func30, Try.ntmps30
        go_wp2_with (first | (go_at_call 72; refine (c_l1Abs _ (by omega) _).mono ?_; rintro e w' ⟨rfl, rfl⟩) | (go_at_call 71; refine (c_bgCommon _ _ (by omega) (by omega) _).mono ?_; rintro e w' ⟨rfl, rfl⟩; rw [HA.out]))
        rw [← hg]
        clear hg
        generalize w.alloc (.cells #[.int .i64 0, .int .i64 0] 25) = W at *
        have hBW : Bx w.heap.size (.int .i64 0) (.int .i64 0) W := ⟨q1, q2, q3, q4, hz0⟩
        go_region
        all_goals go_wp2_with fail
        all_goals
          (go_at_call 74; refine (c_frGood _ _ _).mono ?_; rintro e w1 ⟨rfl, hb1⟩; obtain ⟨hc1, hf1⟩ := bcell hb1; have hz1 := hb1.size; (try simp only [World.size_alloc] at hz1); (try (have hy1 : w.heap.size < w1.heap.size := by omega)); (try (have hx1 := Nat.lt_of_succ_le hz1)); (try (have hv1 := Nat.lt_of_succ_le (Nat.le_of_lt hx1))))
          obtain ⟨x1, x2, x3, x4, x5⟩ := Bx.below (Bx.alloc' (Bx.drew hBW) _) hb1
          go_wp2
          refine bodyPost_ret (v := .tuple #[.agg #[.int .i64 0, .int .i64 0], .bool false]) (by simp [results, Try.results30, go_sem, x1, x2]) rfl ⟨rfl, ?_⟩
          (repeat' (first | (with_reducible exact Below.refl _ _) | (with_reducible refine below_step (by assumption) ?_ ?_) | (with_reducible refine Below.alloc ?_ ?_ _) | (with_reducible refine Below.setCell ?_ ?_ _) | (with_reducible refine below_drewN ?_ _) | (with_reducible refine Below.drew ?_) | omega | (simp; omega) | (simp; done)))
      · go_enter Try.func30, Try.ntmps30
        go_wp2_with (first | (go_at_call 72; refine (c_l1Abs _ (by omega) _).mono ?_; rintro e w' ⟨rfl, rfl⟩) | (go_at_call 71; refine (c_bgCommon _ _ (by omega) (by omega) _).mono ?_; rintro e w' ⟨rfl, rfl⟩; rw [HA.out]))
        rw [← hg]
        clear hg
        generalize w.alloc (.cells #[.int .i64 0, .int .i64 0] 25) = W at *
        have hBW : Bx w.heap.size (.int .i64 0) (.int .i64 0) W := ⟨q1, q2, q3, q4, hz0⟩
        go_region
        all_goals go_wp2_with fail
        all_goals
          (go_at_call 74; refine (c_frGood _ _ _).mono ?_; rintro e w1 ⟨rfl, hb1⟩; obtain ⟨hc1, hf1⟩ := bcell hb1; have hz1 := hb1.size; (try simp only [World.size_alloc] at hz1); (try (have hy1 : w.heap.size < w1.heap.size := by omega)); (try (have hx1 := Nat.lt_of_succ_le hz1)); (try (have hv1 := Nat.lt_of_succ_le (Nat.le_of_lt hx1))))
          obtain ⟨x1, x2, x3, x4, x5⟩ := Bx.below (Bx.alloc' (Bx.drew hBW) _) hb1
          go_wp2
          refine bodyPost_ret (v := .tuple #[.agg #[.int .i64 (n.tdiv g), .int .i64 (d.tdiv g)], .bool true]) (by simp [results, Try.results30, go_sem, x1, x2]) rfl ⟨rfl, ?_⟩
          (repeat' (first | (with_reducible exact Below.refl _ _) | (with_reducible refine below_step (by assumption) ?_ ?_) | (with_reducible refine Below.alloc ?_ ?_ _) | (with_reducible refine Below.setCell ?_ ?_ _) | (with_reducible refine below_drewN ?_ _) | (with_reducible refine Below.drew ?_) | omega | (simp; omega) | (simp; done)))
  · obtain rfl : d = 0 := by simpa using h0
    go_enter Try.func30, Try.ntmps30
    go_wp2
    refine bodyPost_ret (v := .tuple #[.agg #[.int .i64 0, .int .i64 0], .bool false]) (by simp [results, Try.results30, go_sem]) rfl ⟨rfl, ?_⟩
    (repeat' (first | (with_reducible exact Below.refl _ _) | (with_reducible refine below_step (by assumption) ?_ ?_) | (with_reducible refine Below.alloc ?_ ?_ _) | (with_reducible refine Below.setCell ?_ ?_ _) | (with_reducible refine below_drewN ?_ _) | (with_reducible refine Below.drew ?_) | omega | (simp; omega) | (simp; done)))
set_option maxHeartbeats 1000000 in
theorem c_makeFraction (n d : Int) (hd : d ≠ 0) (hn : -4000000000000000000 ≤ n ∧ n ≤ 4000000000000000000) (hd' : -4000000000000000000 ≤ d ∧ d ≤ 4000000000000000000) (w : World) :
    Calls Try.prog 35 #[.int .i64 n, .int .i64 d] w fun e w' => e = .returned (.tuple #[.agg #[.int .i64 (rsI (mOk n d) (mkN n d)), .int .i64 (rsI (mOk n d) (mkD n d))], .bool (mOk n d)]) ∧ Below w.heap.size w w' := by
  unfold mOk
  have h0 : (d == 0) = false := by simpa using hd
  rw [h0]
  · skip
    obtain ⟨f1, f2, f3, f4⟩ := mk_facts hd hn hd'
    have HN : Hid (n.tdiv (mkG n d) = mkN n d) := rfl
    have HD : Hid (d.tdiv (mkG n d) = mkD n d) := rfl
    have f3' : -4000000000000000000 ≤ n.tdiv (mkG n d) ∧ n.tdiv (mkG n d) ≤ 4000000000000000000 := f3
    have f4' : -4000000000000000000 ≤ d.tdiv (mkG n d) ∧ d.tdiv (mkG n d) ≤ 4000000000000000000 := f4
    have f1' : (mkG n d == 0) = false := by simpa using f1
    have HO : Hid (mkOk n d = frOk (n.tdiv (mkG n d)) (d.tdiv (mkG n d))) := rfl
    show Calls Try.prog 35 _ w fun e w' => e = .returned (.tuple #[.agg #[.int .i64 (rsI (mkOk n d) (mkN n d)), .int .i64 (rsI (mkOk n d) (mkD n d))], .bool (mkOk n d)]) ∧ Below w.heap.size w w'
    rw [HO.out, ← HN.out, ← HD.out]
    have hG : (d < 0 ∧ mkG n d = -gcdI n d) ∨ (0 ≤ d ∧ mkG n d = gcdI n d) := by unfold mkG; split <;> omega
    clear HN HD HO hd
    generalize mkG n d = g at *
    obtain ⟨q1, q2, q3, q4⟩ : ((w.alloc (.cells #[.int .i64 0, .int .i64 0] 25)).cell? ⟨w.heap.size, 0, none⟩ = some (.int .i64 0)) ∧ ((w.alloc (.cells #[.int .i64 0, .int .i64 0] 25)).cell? ⟨w.heap.size, 1, none⟩ = some (.int .i64 0)) ∧ ((w.alloc (.cells #[.int .i64 0, .int .i64 0] 25)).frozen? ⟨w.heap.size, 0, none⟩ = false) ∧ ((w.alloc (.cells #[.int .i64 0, .int .i64 0] 25)).frozen? ⟨w.heap.size, 1, none⟩ = false) := ⟨by simp [go_sem], by simp [go_sem], by simp [go_sem], by simp [go_sem]⟩
    have hb0 : Below w.heap.size w (w.alloc (.cells #[.int .i64 0, .int .i64 0] 25)) := (Below.refl _ _).alloc (Nat.le_refl _) _
    have hz0 : w.heap.size < (w.alloc (.cells #[.int .i64 0, .int .i64 0] 25)).heap.size := by simp
    rcases hG with ⟨hs, hg⟩ | ⟨hs, hg⟩
    all_goals
      cases ho : frOk (n.tdiv g) (d.tdiv g)
      · go_enter Try.func35, Try.ntmps35
        go_wp2_with fail
        (go_at_call 78; refine (c_gcd _ _ (by omega) (by omega) _).mono ?_; rintro e w' ⟨rfl, kd, rfl⟩)
        go_wp2
        rw [← hg]
        clear hg
        generalize w.alloc (.cells #[.int .i64 0, .int .i64 0] 25) = W0 at *
        obtain ⟨W, hWW⟩ : ∃ W, W = W0.drewN kd := ⟨_, rfl⟩
        have q1 : W.cell? ⟨w.heap.size, 0, none⟩ = some (.int .i64 0) := by rw [hWW]; exact q1
        have q2 : W.cell? ⟨w.heap.size, 1, none⟩ = some (.int .i64 0) := by rw [hWW]; exact q2
        have q3 : W.frozen? ⟨w.heap.size, 0, none⟩ = false := by rw [hWW]; exact q3
        have q4 : W.frozen? ⟨w.heap.size, 1, none⟩ = false := by rw [hWW]; exact q4
        have hz0 : w.heap.size < W.heap.size := by rw [hWW]; exact hz0
        have hb0 : Below w.heap.size w W := by rw [hWW]; exact below_drewN hb0 _
        rw [← hWW]
        clear hWW
        have hBW : Bx w.heap.size (.int .i64 0) (.int .i64 0) W := ⟨q1, q2, q3, q4, hz0⟩
        go_region
        all_goals go_wp2_with fail
        all_goals
          (go_at_call 80; refine (c_isFraction _ _ _).mono ?_; rintro e w1 ⟨rfl, hb1⟩; obtain ⟨hc1, hf1⟩ := bcell hb1; have hz1 := hb1.size; (try simp only [World.size_alloc] at hz1); (try (have hy1 : w.heap.size < w1.heap.size := by omega)); (try (have hx1 := Nat.lt_of_succ_le hz1)); (try (have hv1 := Nat.lt_of_succ_le (Nat.le_of_lt hx1))))
          obtain ⟨x1, x2, x3, x4, x5⟩ := Bx.below (Bx.alloc' (Bx.drew hBW) _) hb1
          go_wp2
          refine bodyPost_ret (v := .tuple #[.agg #[.int .i64 0, .int .i64 0], .bool false]) (by simp [results, Try.results35, go_sem, x1, x2]) rfl ⟨rfl, ?_⟩
          (repeat' (first | (with_reducible exact Below.refl _ _) | (with_reducible refine below_step (by assumption) ?_ ?_) | (with_reducible refine Below.alloc ?_ ?_ _) | (with_reducible refine Below.setCell ?_ ?_ _) | (with_reducible refine below_drewN ?_ _) | (with_reducible refine Below.drew ?_) | omega | (simp; omega) | (simp; done)))
      · go_enter Try.func35, Try.ntmps35
        go_wp2_with fail
        (go_at_call 78; refine (c_gcd _ _ (by omega) (by omega) _).mono ?_; rintro e w' ⟨rfl, kd, rfl⟩)
        go_wp2
        rw [← hg]
        clear hg
        generalize w.alloc (.cells #[.int .i64 0, .int .i64 0] 25) = W0 at *
        obtain ⟨W, hWW⟩ : ∃ W, W = W0.drewN kd := ⟨_, rfl⟩
        have q1 : W.cell? ⟨w.heap.size, 0, none⟩ = some (.int .i64 0) := by rw [hWW]; exact q1
        have q2 : W.cell? ⟨w.heap.size, 1, none⟩ = some (.int .i64 0) := by rw [hWW]; exact q2
        have q3 : W.frozen? ⟨w.heap.size, 0, none⟩ = false := by rw [hWW]; exact q3
        have q4 : W.frozen? ⟨w.heap.size, 1, none⟩ = false := by rw [hWW]; exact q4
        have hz0 : w.heap.size < W.heap.size := by rw [hWW]; exact hz0
        have hb0 : Below w.heap.size w W := by rw [hWW]; exact below_drewN hb0 _
        rw [← hWW]
        clear hWW
        have hBW : Bx w.heap.size (.int .i64 0) (.int .i64 0) W := ⟨q1, q2, q3, q4, hz0⟩
        go_region
        all_goals go_wp2_with fail
        all_goals
          (go_at_call 80; refine (c_isFraction _ _ _).mono ?_; rintro e w1 ⟨rfl, hb1⟩; obtain ⟨hc1, hf1⟩ := bcell hb1; have hz1 := hb1.size; (try simp only [World.size_alloc] at hz1); (try (have hy1 : w.heap.size < w1.heap.size := by omega)); (try (have hx1 := Nat.lt_of_succ_le hz1)); (try (have hv1 := Nat.lt_of_succ_le (Nat.le_of_lt hx1))))
          obtain ⟨x1, x2, x3, x4, x5⟩ := Bx.below (Bx.alloc' (Bx.drew hBW) _) hb1
          go_wp2
          refine bodyPost_ret (v := .tuple #[.agg #[.int .i64 (n.tdiv g), .int .i64 (d.tdiv g)], .bool true]) (by simp [results, Try.results35, go_sem, x1, x2]) rfl ⟨rfl, ?_⟩
          (repeat' (first | (with_reducible exact Below.refl _ _) | (with_reducible refine below_step (by assumption) ?_ ?_) | (with_reducible refine Below.alloc ?_ ?_ _) | (with_reducible refine Below.setCell ?_ ?_ _) | (with_reducible refine below_drewN ?_ _) | (with_reducible refine Below.drew ?_) | omega | (simp; omega) | (simp; done)))
end Go.Proofs.Ytcnfjapoopdiaaa
