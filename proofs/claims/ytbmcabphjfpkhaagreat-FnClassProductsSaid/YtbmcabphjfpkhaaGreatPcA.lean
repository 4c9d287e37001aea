/- Walks: classes of numbers whose parts stay small (squarefree, tcClass); classes told (isClass, dsClass); SquarefreePart. -/
import Derived.Test.YtbmcabphjfpkhaaGreatPcC
import Derived.Test.YtbmcabphjfpkhaaGreatSqf
import Derived.Test.YtbmcabphjfpkhaaGreatFac
namespace Go.Proofs.YtbmcabphjfpkhaaGreat
open Go.RowKit

set_option maxHeartbeats 1000000 in
theorem c_squarefreeP (n : Int) (hn : n ≠ 0) (hb : -1000000000 ≤ n ∧ n ≤ 1000000000) (hk : pcOk n = true) (w : World) :
    Calls Tryz.prog 29 #[.int .i64 n] w fun e w' => e = .returned (.int .i64 (sqf n)) ∧ Below w.heap.size w w' := by
  have Hn := Lib.hid hn
  obtain ⟨hp1, hp2, hp3⟩ := pcOk_p hk
  have Hp2 := Lib.hid hp2
  have Hp3 := Lib.hid hp3
  have hs : 0 ≤ n ∨ n < 0 := by omega
  clear hn hp2 hp3 hk
  rcases hs with hs | hs
  all_goals
    go_enter Tryz.func29, Tryz.ntmps29
    go_wp2_with fail
    refine (c_primesOf n (by omega) _).mono ?_
    rintro e w1 ⟨v, rfl, hown, hbl⟩
    obtain ⟨a, cap, rfl, hcell⟩ := hown.form
    have Hc := Lib.hid hcell
    clear hcell
    generalize hL : primesL n.natAbs = L at *
    have HL := Lib.hid hL
    clear hL hown
    go_wp2
    go_loop [3, 11] (fun o i => ∃ k : Nat, k ≤ L.length ∧ i = .int .i64 k ∧ o = .int .i64 (sqfF n (L.take k) (sgn n))) (fun _ i => L.length - (intOf i).toNat)
    case atStart => exact ⟨0, Nat.zero_le _, rfl, by simp [sqfF, sgn, hs] <;> omega⟩
    case round =>
      obtain ⟨k, hk, rfl, rfl⟩ := hrel
      by_cases hlt : k < L.length
      · obtain ⟨g, rfl, hcx, hgl⟩ := Hc.out k hlt
        have h2 := Hp2.out k hlt
        have h3 := Hp3.out k (by omega)
        have h4 := Hp3.out (k + 1) (by omega)
        have HS := Lib.hid (sqfF_take (n := n) L (sgn n) hlt)
        generalize hx : L[k]?.getD 0 = x at hcx h2 HS
        have HX := Lib.hid hx
        clear hx
        by_cases hv : val n x % 2 = 1
        · have hh : (val n x % 2 == 1) = true := by simp [hv]
          have h0 : 0 ≤ val n x := valF_nonneg _ _ _
          rw [if_pos hv] at HS
          have h5 : -1000000 ≤ sqfF n (L.take k) (sgn n) * x ∧ sqfF n (L.take k) (sgn n) * x ≤ 1000000 := by rw [← HS.out]; exact h4
          clear hv h4
          go_wp2_with ((go_at_call 58; refine (c_valuation _ _ Hn.out (by omega) (by omega) _).mono ?_; rintro e w' ⟨rfl, rfl⟩))
          go_round
          case rel => exact ⟨k + 1, by omega, by go_num, by rw [HS.out]⟩
          case measure => simp [intOf]; omega
        · have hh : (val n x % 2 == 1) = false := by simp [hv]
          have h0 : 0 ≤ val n x := valF_nonneg _ _ _
          rw [if_neg hv] at HS
          clear hv h4
          go_wp2_with ((go_at_call 58; refine (c_valuation _ _ Hn.out (by omega) (by omega) _).mono ?_; rintro e w' ⟨rfl, rfl⟩))
          go_round
          case rel => exact ⟨k + 1, by omega, by go_num, by rw [HS.out]⟩
          case measure => simp [intOf]; omega
      · go_wp2
        go_ret
        refine ⟨?_, hbl⟩
        have : L.take k = L := List.take_of_length_le (by omega)
        rw [this, ← HL.out]; rfl
set_option maxHeartbeats 1000000 in
theorem c_tcClassP (n : Int) (hn : n ≠ 0) (hb : -1000000000 ≤ n ∧ n ≤ 1000000000) (hk : pcOk n = true) (w : World) :
    Calls Tryz.prog 54 #[.int .i64 n] w fun e w' => e = .returned (.int .i64 (cls n)) ∧ Below w.heap.size w w' := by
  obtain ⟨hp1, hp2, hp3⟩ := pcOk_f hk
  have Hp2 := Lib.hid hp2
  have Hp3 := Lib.hid hp3
  have Hcl : Hid (cls n = clsF (factL n.natAbs) (sgn n)) := Lib.hid (by unfold cls sgn; congr 1; split <;> split <;> (try split) <;> first | rfl | omega)
  have Hs : Hid (signI n = sgn n) := Lib.hid (by unfold signI sgn; split <;> split <;> (try split) <;> first | rfl | omega)
  have hsg : sgn n = 1 ∨ sgn n = -1 := by unfold sgn; split <;> simp
  clear hp2 hp3 hk hn
  go_enter Tryz.func54, Tryz.ntmps54
  go_wp2_with ((go_at_call 77; refine (c_l1Sign _ _).mono ?_; rintro e w' ⟨rfl, rfl⟩))
  have Hs' := Hs.out
  rw [Hs']
  clear Hs'
  go_wp2_with ((go_at_call 56; refine (c_l1Abs _ (by omega) _).mono ?_; rintro e w' ⟨rfl, rfl⟩))
  refine (c_mdFactors _ (by omega) _).mono ?_
  rintro e w1 ⟨v, rfl, hown, hbl⟩
  obtain ⟨a, cap, rfl, hcell⟩ := hown.form
  have Hc := Lib.hid hcell
  clear hcell
  generalize hL : factL n.natAbs = L at *
  have HL := Lib.hid hL
  clear hL hown
  go_wp2
  go_loop [3, 12] (fun o i => ∃ k : Nat, k ≤ L.length ∧ i = .int .i64 k ∧ o = .int .i64 (clsF (L.take k) (sgn n))) (fun _ i => L.length - (intOf i).toNat)
  case atStart => exact ⟨0, Nat.zero_le _, rfl, by simp [clsF]⟩
  case round =>
    obtain ⟨k, hk, rfl, rfl⟩ := hrel
    by_cases hlt : k < L.length
    · obtain ⟨g, g', rfl, hcx, hc0, hc1, hgl⟩ := Hc.out k hlt
      have h2 := Hp2.out k hlt
      have h3 := Hp3.out k (by omega)
      have h4 := Hp3.out (k + 1) (by omega)
      have HS := Lib.hid (clsF_take L (sgn n) hlt)
      generalize hx : L[k].1 = x at hc0 h2 HS
      generalize hy : L[k].2 = y at hc1 h2 HS
      have HX := Lib.hid hx
      have HY := Lib.hid hy
      clear hx hy
      by_cases hv : y % 2 = 1
      · have hh : (y % 2 == 1) = true := by simp [hv]
        rw [if_pos hv] at HS
        have h5 : -1000000 ≤ clsF (L.take k) (sgn n) * x ∧ clsF (L.take k) (sgn n) * x ≤ 1000000 := by rw [← HS.out]; exact h4
        clear hv h4
        go_wp2
        go_round
        case rel => exact ⟨k + 1, by omega, by go_num, by rw [HS.out]⟩
        case measure => simp [intOf]; omega
      · have hh : (y % 2 == 1) = false := by simp [hv]
        rw [if_neg hv] at HS
        clear hv h4
        go_wp2
        go_round
        case rel => exact ⟨k + 1, by omega, by go_num, by rw [HS.out]⟩
        case measure => simp [intOf]; omega
    · go_wp2
      go_ret
      refine ⟨?_, hbl⟩
      have : L.take k = L := List.take_of_length_le (by omega)
      rw [this, Hcl.out]; rfl
theorem c_isClass (v : Int) (hv : ClsV v) (w : World) :
    Calls Tryz.prog 24 #[.int .i64 v] w fun e w' => e = .returned (.bool (clB v)) ∧ Below w.heap.size w w' := by
  by_cases h0 : v = 0
  · subst h0
    go_enter Tryz.func24, Tryz.ntmps24
    go_wp2
    go_ret
    exact ⟨rfl, Below.refl _ _⟩
  · cases h1 : inB v (-1000000) 1000000
    · have hc : clB v = false := by unfold clB; rw [h1]; rfl
      rw [hc]
      go_enter Tryz.func24, Tryz.ntmps24
      go_wp2_with ((go_at_call 28; refine (c_inside _ _ _ _).mono ?_; rintro e w' ⟨rfl, rfl⟩))
      go_ret
      exact ⟨rfl, Below.refl _ _⟩
    · have hb := inB_true h1
      have hc : clB v = (v != 0 && sqf v == v) := by unfold clB; rw [h1]; rfl
      obtain ⟨h2, _⟩ := clsv_ok hv h0 hb
      rw [hc]
      clear hc hv
      go_enter Tryz.func24, Tryz.ntmps24
      go_wp2_with (first | (go_at_call 28; refine (c_inside _ _ _ _).mono ?_; rintro e w' ⟨rfl, rfl⟩) | (go_at_call 29; refine (c_squarefreeP v h0 (by omega) h2 _).mono ?_; rintro e w1 ⟨rfl, hb1⟩; obtain ⟨hc1, hf1⟩ := bcell hb1; have hz1 := hb1.size; (try simp only [World.size_alloc] at hz1); (try (have hy1 : w.heap.size < w1.heap.size := by omega)); (try (have hx1 := Nat.lt_of_succ_le hz1)); (try (have hv1 := Nat.lt_of_succ_le (Nat.le_of_lt hx1)))))
      go_ret
      refine ⟨rfl, ?_⟩
      (repeat' (first | (with_reducible exact Below.refl _ _) | (with_reducible refine below_step (by assumption) ?_ ?_) | (with_reducible refine Below.alloc ?_ ?_ _) | (with_reducible refine Below.setCell ?_ ?_ _) | (with_reducible refine below_drewN ?_ _) | (with_reducible refine Below.drew ?_) | omega | (simp; omega) | (simp; done)))
theorem c_dsClass (v : Int) (hv : ClsV v) (w : World) :
    Calls Tryz.prog 26 #[.int .i64 v] w fun e w' => e = .returned (.bool (clB v)) ∧ Below w.heap.size w w' := by
  cases h1 : inB v (-1000000) 1000000
  · have hc : clB v = false := by unfold clB; rw [h1]; rfl
    rw [hc]
    go_enter Tryz.func26, Tryz.ntmps26
    go_wp2_with ((go_at_call 53; refine (c_l1In _ _ _ _).mono ?_; rintro e w' ⟨rfl, rfl⟩))
    go_ret
    exact ⟨rfl, Below.refl _ _⟩
  · have hb := inB_true h1
    by_cases h0 : v = 0
    · subst h0
      go_enter Tryz.func26, Tryz.ntmps26
      go_wp2_with ((go_at_call 53; refine (c_l1In _ _ _ _).mono ?_; rintro e w' ⟨rfl, rfl⟩))
      go_ret
      exact ⟨rfl, Below.refl _ _⟩
    · obtain ⟨h2, h3⟩ := clsv_ok hv h0 hb
      have hc : clB v = (v != 0 && cls v == v) := by unfold clB; rw [h1, h3]; rfl
      rw [hc]
      clear hc hv h3
      go_enter Tryz.func26, Tryz.ntmps26
      go_wp2_with (first | (go_at_call 53; refine (c_l1In _ _ _ _).mono ?_; rintro e w' ⟨rfl, rfl⟩) | (go_at_call 54; refine (c_tcClassP v h0 (by omega) h2 _).mono ?_; rintro e w1 ⟨rfl, hb1⟩; obtain ⟨hc1, hf1⟩ := bcell hb1; have hz1 := hb1.size; (try simp only [World.size_alloc] at hz1); (try (have hy1 : w.heap.size < w1.heap.size := by omega)); (try (have hx1 := Nat.lt_of_succ_le hz1)); (try (have hv1 := Nat.lt_of_succ_le (Nat.le_of_lt hx1)))))
      go_ret
      refine ⟨rfl, ?_⟩
      (repeat' (first | (with_reducible exact Below.refl _ _) | (with_reducible refine below_step (by assumption) ?_ ?_) | (with_reducible refine Below.alloc ?_ ?_ _) | (with_reducible refine Below.setCell ?_ ?_ _) | (with_reducible refine below_drewN ?_ _) | (with_reducible refine Below.drew ?_) | omega | (simp; omega) | (simp; done)))
theorem c_iSquarefreePart (x : Nat) (hx : x < 512) (hN : cdN x ≤ 1000000) (w : World) :
    Calls Tryz.prog 8 #[.int .i64 (cdV x)] w fun e w' => e = .returned (.tuple #[.int .i64 (cdV x), .bool true]) ∧ Below w.heap.size w w' := by
  have hb : -1000000 ≤ cdV x ∧ cdV x ≤ 1000000 := by have := cdV_abs x; omega
  have h0 := cdV_ne x
  obtain ⟨h2, h3, _⟩ := cd_ok hx hN
  have h1 : inB (cdV x) (-1000000000) 1000000000 = true := by unfold inB; simp; omega
  have h0' : (cdV x == 0) = false := by simpa using h0
  have HS := Lib.hid (fun W => c_squarefreeP (cdV x) h0 (by omega) h2 W)
  rw [h3] at HS
  generalize cdV x = v at *
  go_enter Tryz.func8, Tryz.ntmps8
  go_wp2_with (first | (go_at_call 28; refine (c_inside _ _ _ _).mono ?_; rintro e w' ⟨rfl, rfl⟩) | (go_at_call 29; refine (HS.out _).mono ?_; rintro e w1 ⟨rfl, hb1⟩; obtain ⟨hc1, hf1⟩ := bcell hb1; have hz1 := hb1.size; (try simp only [World.size_alloc] at hz1); (try (have hy1 : w.heap.size < w1.heap.size := by omega)); (try (have hx1 := Nat.lt_of_succ_le hz1)); (try (have hv1 := Nat.lt_of_succ_le (Nat.le_of_lt hx1)))))
  go_ret2
  refine ⟨rfl, ?_⟩
  (repeat' (first | (with_reducible exact Below.refl _ _) | (with_reducible refine below_step (by assumption) ?_ ?_) | (with_reducible refine Below.alloc ?_ ?_ _) | (with_reducible refine Below.setCell ?_ ?_ _) | (with_reducible refine below_drewN ?_ _) | (with_reducible refine Below.drew ?_) | omega | (simp; omega) | (simp; done)))
end Go.Proofs.YtbmcabphjfpkhaaGreat
