/- Walks: tables of curves, counts of points. -/
import Derived.Test.YtilgeeaobdebhaaTabPlain
import Derived.Test.YtilgeeaobdebhaaPairC
namespace Go.Proofs.Ytilgeeaobdebhaa
open Go.RowKit

set_option maxHeartbeats 1000000 in
theorem c_tableOf (p : Int) (hp : tabP p = true) (w : World) :
    Calls Try.prog 37 #[.int .i64 p] w fun e w' => ∃ v, e = .returned v ∧ OwnsC w' w.heap.size v (tabL p) ∧ Below w.heap.size w w' := by
  obtain ⟨h5, h31, _⟩ := tabP_of hp
  obtain ⟨n, rfl⟩ := Int.eq_ofNat_of_zero_le (show 0 ≤ p by omega)
  have HP := Lib.hid hp
  clear hp
  go_enter Try.func37, Try.ntmps37
  go_wp2
  go_loopw [3, 8] (fun v i wr => ∃ a : Nat, a ≤ n ∧ i = .int .i64 a ∧ OwnsC wr w.heap.size v (tabTo n a) ∧ Below w.heap.size w wr) (fun _ i _ => n - (intOf i).toNat)
  case atStart => exact ⟨0, Nat.zero_le _, rfl, OwnsP.nil _ _ _, Below.refl _ _⟩
  case round =>
    obtain ⟨a, ha, rfl, ho, hbl⟩ := hrel
    have hlen := tabTo_len n a
    by_cases hlt : a < n
    · obtain ⟨wo, rfl⟩ : ∃ wo : World, wo = wr := ⟨_, rfl⟩
      have HQ := Lib.hid (tabTo_succ n a)
      go_wp2
      go_loopw [3, 12] (fun v i wr => ∃ b : Nat, b ≤ n ∧ i = .int .i64 b ∧ OwnsC wr w.heap.size v (tabTo n a ++ rowTo n a b) ∧ Below w.heap.size w wr) (fun _ i _ => n - (intOf i).toNat)
      case atStart => exact ⟨0, Nat.zero_le _, rfl, by simpa [rowTo] using ho, hbl⟩
      case round =>
        clear ho hbl
        obtain ⟨b, hb, rfl, ho, hbl⟩ := hrel
        have hsz := hbl.size
        have hrl := rowTo_len n a b
        have hm : a * (n : Int).toNat ≤ 31 * 31 := Nat.mul_le_mul (by omega) (by omega)
        by_cases hlt2 : b < n
        · have HT := Lib.hid (tabB_ok HP.out (a := a) (b := b) (by omega) (by omega))
          have HR := Lib.hid (rowTo_succ n a b)
          cases hk : okC n a b
          · have HR2 : Hid (rowTo n a (b + 1) = rowTo n a b) := by show _ = _; rw [HR.out, hk]; rfl
            have hk2 : tabB n a b = false := by rw [← hk, ← HT.out]
            clear hk
            go_wp2_with fail
            (go_at_call 50; refine (c_isTableCurve _ _ _ _).mono ?_; rintro e w1 ⟨rfl, hb1⟩; obtain ⟨hc1, hf1⟩ := bcell hb1; have hz1 := hb1.size; (try simp only [World.size_alloc] at hz1); (try (have hy1 : w.heap.size < w1.heap.size := by omega)); (try (have hx1 := Nat.lt_of_succ_le hz1)); (try (have hv1 := Nat.lt_of_succ_le (Nat.le_of_lt hx1))))
            have hbl2 : Below w.heap.size w w1 := by (repeat' (first | (with_reducible exact Below.refl _ _) | (with_reducible refine below_step (by assumption) ?_ ?_) | (with_reducible refine Below.alloc ?_ ?_ _) | (with_reducible refine Below.setCell ?_ ?_ _) | (with_reducible refine below_drewN ?_ _) | (with_reducible refine Below.drew ?_) | omega | (simp; omega) | (simp; done)))
            have ho2 := OwnsP.below (OwnsP.below ho (Below.alloc (Below.refl _ _) (Nat.le_refl _) _)) hb1
            go_wp2
            go_roundw
            case rel => exact ⟨b + 1, by omega, by go_num, by rw [HR2.out]; exact ho2, hbl2⟩
            case measure => simp [intOf]; omega
          · have HR2 : Hid (tabTo n a ++ rowTo n a (b + 1) = (tabTo n a ++ rowTo n a b) ++ [((a : Int), (b : Int))]) := by show _ = _; rw [HR.out, hk, if_pos rfl, List.append_assoc]
            have hk2 : tabB n a b = true := by rw [← hk, ← HT.out]
            clear hk
            go_wp2_with fail
            (go_at_call 50; refine (c_isTableCurve _ _ _ _).mono ?_; rintro e w1 ⟨rfl, hb1⟩; obtain ⟨hc1, hf1⟩ := bcell hb1; have hz1 := hb1.size; (try simp only [World.size_alloc] at hz1); (try (have hy1 : w.heap.size < w1.heap.size := by omega)); (try (have hx1 := Nat.lt_of_succ_le hz1)); (try (have hv1 := Nat.lt_of_succ_le (Nat.le_of_lt hx1))))
            have hbl2 : Below w.heap.size w w1 := by (repeat' (first | (with_reducible exact Below.refl _ _) | (with_reducible refine below_step (by assumption) ?_ ?_) | (with_reducible refine Below.alloc ?_ ?_ _) | (with_reducible refine Below.setCell ?_ ?_ _) | (with_reducible refine below_drewN ?_ _) | (with_reducible refine Below.drew ?_) | omega | (simp; omega) | (simp; done)))
            have ho2 := OwnsP.below (OwnsP.below ho (Below.alloc (Below.refl _ _) (Nat.le_refl _) _)) hb1
            have hs2 := hbl2.size
            have hl2 : (tabTo n a ++ rowTo n a b).length < 1000000 := by rw [List.length_append]; omega
            go_wp2_with (at_builtin; refine wpList_appC (p := ((a : Int), (b : Int))) rfl _ _ rfl w.heap.size _ _ rfl ho2 rfl (by omega) hs2 ?_; intro v' w4 ho4 hb4 hg4)
            have hb5 := hbl2.trans hb4
            go_wp2
            go_roundw
            case rel => exact ⟨b + 1, by omega, by go_num, by rw [HR2.out]; exact ho4, hb5⟩
            case measure => simp [intOf]; omega
        · obtain rfl : b = n := by omega
          go_wp2
          go_roundw
          case rel => exact ⟨a + 1, by omega, by go_num, by rw [HQ.out]; exact ho, hbl⟩
          case measure => simp [intOf]; omega
    · obtain rfl : a = n := by omega
      go_wp2
      go_ret
      exact ⟨_, rfl, ho, hbl⟩
set_option maxHeartbeats 1000000 in
theorem c_ctAll (p : Int) (hp : tabP p = true) (w : World) :
    Calls Try.prog 40 #[.int .i64 p] w fun e w' => ∃ v, e = .returned v ∧ OwnsC w' w.heap.size v (tabL p) ∧ Below w.heap.size w w' := by
  obtain ⟨h5, h31, _⟩ := tabP_of hp
  obtain ⟨n, rfl⟩ := Int.eq_ofNat_of_zero_le (show 0 ≤ p by omega)
  have HP := Lib.hid hp
  clear hp
  go_enter Try.func40, Try.ntmps40
  go_wp2
  go_loopw [3, 4] (fun v i wr => ∃ a : Nat, a ≤ n ∧ i = .int .i64 a ∧ OwnsC wr w.heap.size v (tabTo n a) ∧ Below w.heap.size w wr) (fun _ i _ => n - (intOf i).toNat)
  case atStart => exact ⟨0, Nat.zero_le _, rfl, OwnsP.nil _ _ _, Below.refl _ _⟩
  case round =>
    obtain ⟨a, ha, rfl, ho, hbl⟩ := hrel
    have hlen := tabTo_len n a
    by_cases hlt : a < n
    · obtain ⟨wo, rfl⟩ : ∃ wo : World, wo = wr := ⟨_, rfl⟩
      have HQ := Lib.hid (tabTo_succ n a)
      go_wp2
      go_loopw [3, 5] (fun v i wr => ∃ b : Nat, b ≤ n ∧ i = .int .i64 b ∧ OwnsC wr w.heap.size v (tabTo n a ++ rowTo n a b) ∧ Below w.heap.size w wr) (fun _ i _ => n - (intOf i).toNat)
      case atStart => exact ⟨0, Nat.zero_le _, rfl, by simpa [rowTo] using ho, hbl⟩
      case round =>
        clear ho hbl
        obtain ⟨b, hb, rfl, ho, hbl⟩ := hrel
        have hsz := hbl.size
        have hrl := rowTo_len n a b
        have hm : a * (n : Int).toNat ≤ 31 * 31 := Nat.mul_le_mul (by omega) (by omega)
        by_cases hlt2 : b < n
        · have HT := Lib.hid (tabB_ok HP.out (a := a) (b := b) (by omega) (by omega))
          have HR := Lib.hid (rowTo_succ n a b)
          cases hk : okC n a b
          · have HR2 : Hid (rowTo n a (b + 1) = rowTo n a b) := by show _ = _; rw [HR.out, hk]; rfl
            have hk2 : (inB (a : Int) 0 ((n : Int) - 1) && inB (b : Int) 0 ((n : Int) - 1) && !(disc a b % n == 0)) = false := by rw [← hk, ← HT.out]; unfold tabB; rw [HP.out]; rfl
            clear hk
            go_wp2_with fail
            (go_at_call 69; refine (c_ctIn _ _ _ (by omega) _).mono ?_; rintro e w1 ⟨rfl, hb1⟩; obtain ⟨hc1, hf1⟩ := bcell hb1; have hz1 := hb1.size; (try simp only [World.size_alloc] at hz1); (try (have hy1 : w.heap.size < w1.heap.size := by omega)); (try (have hx1 := Nat.lt_of_succ_le hz1)); (try (have hv1 := Nat.lt_of_succ_le (Nat.le_of_lt hx1))))
            have hbl2 : Below w.heap.size w w1 := by (repeat' (first | (with_reducible exact Below.refl _ _) | (with_reducible refine below_step (by assumption) ?_ ?_) | (with_reducible refine Below.alloc ?_ ?_ _) | (with_reducible refine Below.setCell ?_ ?_ _) | (with_reducible refine below_drewN ?_ _) | (with_reducible refine Below.drew ?_) | omega | (simp; omega) | (simp; done)))
            have ho2 := OwnsP.below (OwnsP.below ho (Below.alloc (Below.refl _ _) (Nat.le_refl _) _)) hb1
            go_wp2
            go_roundw
            case rel => exact ⟨b + 1, by omega, by go_num, by rw [HR2.out]; exact ho2, hbl2⟩
            case measure => simp [intOf]; omega
          · have HR2 : Hid (tabTo n a ++ rowTo n a (b + 1) = (tabTo n a ++ rowTo n a b) ++ [((a : Int), (b : Int))]) := by show _ = _; rw [HR.out, hk, if_pos rfl, List.append_assoc]
            have hk2 : (inB (a : Int) 0 ((n : Int) - 1) && inB (b : Int) 0 ((n : Int) - 1) && !(disc a b % n == 0)) = true := by rw [← hk, ← HT.out]; unfold tabB; rw [HP.out]; rfl
            clear hk
            go_wp2_with fail
            (go_at_call 69; refine (c_ctIn _ _ _ (by omega) _).mono ?_; rintro e w1 ⟨rfl, hb1⟩; obtain ⟨hc1, hf1⟩ := bcell hb1; have hz1 := hb1.size; (try simp only [World.size_alloc] at hz1); (try (have hy1 : w.heap.size < w1.heap.size := by omega)); (try (have hx1 := Nat.lt_of_succ_le hz1)); (try (have hv1 := Nat.lt_of_succ_le (Nat.le_of_lt hx1))))
            have hbl2 : Below w.heap.size w w1 := by (repeat' (first | (with_reducible exact Below.refl _ _) | (with_reducible refine below_step (by assumption) ?_ ?_) | (with_reducible refine Below.alloc ?_ ?_ _) | (with_reducible refine Below.setCell ?_ ?_ _) | (with_reducible refine below_drewN ?_ _) | (with_reducible refine Below.drew ?_) | omega | (simp; omega) | (simp; done)))
            have ho2 := OwnsP.below (OwnsP.below ho (Below.alloc (Below.refl _ _) (Nat.le_refl _) _)) hb1
            have hs2 := hbl2.size
            have hl2 : (tabTo n a ++ rowTo n a b).length < 1000000 := by rw [List.length_append]; omega
            go_wp2_with (at_builtin; refine wpList_appC (p := ((a : Int), (b : Int))) rfl _ _ rfl w.heap.size _ _ rfl ho2 rfl (by omega) hs2 ?_; intro v' w4 ho4 hb4 hg4)
            have hb5 := hbl2.trans hb4
            go_wp2
            go_roundw
            case rel => exact ⟨b + 1, by omega, by go_num, by rw [HR2.out]; exact ho4, hb5⟩
            case measure => simp [intOf]; omega
        · obtain rfl : b = n := by omega
          go_wp2
          go_roundw
          case rel => exact ⟨a + 1, by omega, by go_num, by rw [HQ.out]; exact ho, hbl⟩
          case measure => simp [intOf]; omega
    · obtain rfl : a = n := by omega
      go_wp2
      go_ret
      exact ⟨_, rfl, ho, hbl⟩
theorem c_fmValue (A B p x : Int) (hA : -1000 ≤ A ∧ A ≤ 1000) (hB : -10000 ≤ B ∧ B ≤ 10000) (hp : 1 ≤ p ∧ p ≤ 1000) (hx : 0 ≤ x ∧ x ≤ 1000) (w : World) :
    Calls Try.prog 76 #[.agg #[.int .i64 A, .int .i64 B], .int .i64 p, .int .i64 x] w fun e w' => e = .returned (.int .i64 (fV A B x % p)) ∧ Below w.heap.size w w' := by
  obtain ⟨b1, b2, b3, b4, b5⟩ := fV_bd (p := p) hA hx hp
  go_enter Try.func76, Try.ntmps76
  go_wp2_with ((go_at_call 83; refine (c_mdMod _ _ (by omega) (by omega) _).mono ?_; rintro e w' ⟨rfl, rfl⟩))
  go_ret
  refine ⟨rfl, ?_⟩
  (repeat' (first | (with_reducible exact Below.refl _ _) | (with_reducible refine below_step (by assumption) ?_ ?_) | (with_reducible refine Below.alloc ?_ ?_ _) | (with_reducible refine Below.setCell ?_ ?_ _) | (with_reducible refine below_drewN ?_ _) | (with_reducible refine Below.drew ?_) | omega | (simp; omega) | (simp; done)))
set_option maxHeartbeats 1000000 in
theorem c_countPoints (A B p : Int) (hA : -1000 ≤ A ∧ A ≤ 1000) (hB : -10000 ≤ B ∧ B ≤ 10000) (hp : 3 ≤ p ∧ p ≤ 997) (hpr : primeB p = true) (w : World) :
    Calls Try.prog 49 #[.agg #[.int .i64 A, .int .i64 B], .int .i64 p] w fun e w' => e = .returned (.int .i64 (cntV A B p)) ∧ Below w.heap.size w w' := by
  have HS := Lib.hid (sumTo_bd A B p hpr hp.1 (by omega))
  have HE := Lib.hid (fun a => sym_eq a p hpr hp.1 (by omega))
  have HB := Lib.hid (fun a => sym_bd a p hpr hp.1 (by omega))
  clear hpr
  go_enter Try.func49, Try.ntmps49
  go_wp2
  go_loopw [5, 8] (fun c i wr => ∃ k : Nat, (k : Int) ≤ p ∧ c = .int .i64 (1 + (k : Int) + sumTo A B p k) ∧ i = .int .i64 k ∧ (wr.cell? ⟨w.heap.size, 0, none⟩ = some (.int .i64 A) ∧ wr.cell? ⟨w.heap.size, 1, none⟩ = some (.int .i64 B) ∧ w.heap.size < wr.heap.size ∧ w.heap.size ≤ wr.heap.size ∧ Below w.heap.size w wr)) (fun _ i _ => (p - intOf i).toNat)
  case atStart => exact ⟨0, by omega, by simp [sumTo], rfl, by simp [go_sem], by simp [go_sem], by simp, by simp, by (repeat' (first | (with_reducible exact Below.refl _ _) | (with_reducible refine below_step (by assumption) ?_ ?_) | (with_reducible refine Below.alloc ?_ ?_ _) | (with_reducible refine Below.setCell ?_ ?_ _) | (with_reducible refine below_drewN ?_ _) | (with_reducible refine Below.drew ?_) | omega | (simp; omega) | (simp; done)))⟩
  case round =>
    obtain ⟨k, hk, rfl, rfl, q1, q2, q3, q4, q5⟩ := hrel
    have hsb := HS.out k
    by_cases hlt : (k : Int) < p
    · have HQ : Hid (sumTo A B p (k + 1) = sumTo A B p k + symS (fV A B k) p) := rfl
      have hb1' := HB.out (fV A B k)
      have HM : Hid (symI (fV A B k % p) p = symS (fV A B k) p) := by show _ = _; rw [symI_mod, HE.out]
      have hb2' : -1 ≤ symI (fV A B k % p) p ∧ symI (fV A B k % p) p ≤ 1 := by rw [HM.out]; exact hb1'
      go_wp2_with (first | (go_at_call 73; refine (c_rightSide _ _ _ _ hA hB (by omega) (by omega) _).mono ?_; rintro e w1 ⟨rfl, hb1⟩; obtain ⟨hc1, hf1⟩ := bcell hb1; have hz1 := hb1.size; (try simp only [World.size_alloc] at hz1); (try (have hy1 : w.heap.size < w1.heap.size := by omega)); (try (have hx1 := Nat.lt_of_succ_le hz1)); (try (have hv1 := Nat.lt_of_succ_le (Nat.le_of_lt hx1)))) | (go_at_call 51; refine (c_symbol _ _ (by omega) (by omega) _).mono ?_; rintro e w' ⟨rfl, kd, rfl⟩))
      have hS := keep2 (w := w) (B := w.heap.size) (W := wr) (b := w.heap.size) ⟨q1, q2, q3, q4, q5⟩ hb1
      go_roundw
      case rel => exact ⟨k + 1, by omega, by rw [HQ.out, ← HM.out]; go_num, by go_num, keep2d hS⟩
      case measure => simp [intOf]; omega
    · obtain rfl : (k : Int) = p := by omega
      go_wp2
      go_ret
      refine ⟨?_, q5⟩
      unfold cntV
      simp only [Int.toNat_natCast]
      refine ret_int ?_
      omega
set_option maxHeartbeats 1000000 in
theorem c_fmCount (A B p : Int) (hA : -1000 ≤ A ∧ A ≤ 1000) (hB : -10000 ≤ B ∧ B ≤ 10000) (hp : 3 ≤ p ∧ p ≤ 997) (hpr : primeB p = true) (w : World) :
    Calls Try.prog 54 #[.agg #[.int .i64 A, .int .i64 B], .int .i64 p] w fun e w' => e = .returned (.int .i64 (cntV A B p)) ∧ Below w.heap.size w w' := by
  have HS := Lib.hid (sumTo_bd A B p hpr hp.1 (by omega))
  have HE := Lib.hid (fun a => sym_eq a p hpr hp.1 (by omega))
  have HB := Lib.hid (fun a => sym_bd a p hpr hp.1 (by omega))
  clear hpr
  go_enter Try.func54, Try.ntmps54
  go_wp2
  go_loopw [5, 6] (fun c i wr => ∃ k : Nat, (k : Int) ≤ p ∧ c = .int .i64 (p + 1 + sumTo A B p k) ∧ i = .int .i64 k ∧ (wr.cell? ⟨w.heap.size, 0, none⟩ = some (.int .i64 A) ∧ wr.cell? ⟨w.heap.size, 1, none⟩ = some (.int .i64 B) ∧ w.heap.size < wr.heap.size ∧ w.heap.size ≤ wr.heap.size ∧ Below w.heap.size w wr)) (fun _ i _ => (p - intOf i).toNat)
  case atStart => exact ⟨0, by omega, by simp [sumTo], rfl, by simp [go_sem], by simp [go_sem], by simp, by simp, by (repeat' (first | (with_reducible exact Below.refl _ _) | (with_reducible refine below_step (by assumption) ?_ ?_) | (with_reducible refine Below.alloc ?_ ?_ _) | (with_reducible refine Below.setCell ?_ ?_ _) | (with_reducible refine below_drewN ?_ _) | (with_reducible refine Below.drew ?_) | omega | (simp; omega) | (simp; done)))⟩
  case round =>
    obtain ⟨k, hk, rfl, rfl, q1, q2, q3, q4, q5⟩ := hrel
    have hsb := HS.out k
    by_cases hlt : (k : Int) < p
    · have HQ : Hid (sumTo A B p (k + 1) = sumTo A B p k + symS (fV A B k) p) := rfl
      have hb1' := HB.out (fV A B k)
      have HM : Hid (symS (fV A B k % p) p = symS (fV A B k) p) := by show _ = _; rw [symS_mod]
      have hb2' : -1 ≤ symS (fV A B k % p) p ∧ symS (fV A B k % p) p ≤ 1 := by rw [HM.out]; exact hb1'
      go_wp2_with (first | (go_at_call 76; refine (c_fmValue _ _ _ _ hA hB (by omega) (by omega) _).mono ?_; rintro e w1 ⟨rfl, hb1⟩; obtain ⟨hc1, hf1⟩ := bcell hb1; have hz1 := hb1.size; (try simp only [World.size_alloc] at hz1); (try (have hy1 : w.heap.size < w1.heap.size := by omega)); (try (have hx1 := Nat.lt_of_succ_le hz1)); (try (have hv1 := Nat.lt_of_succ_le (Nat.le_of_lt hx1)))) | (go_at_call 53; refine (c_mdSymbol _ _ (by omega) (by omega) _).mono ?_; rintro e w' ⟨rfl, rfl⟩))
      have hS := keep2 (w := w) (B := w.heap.size) (W := wr) (b := w.heap.size) ⟨q1, q2, q3, q4, q5⟩ hb1
      go_roundw
      case rel => exact ⟨k + 1, by omega, by rw [HQ.out, ← HM.out]; go_num, by go_num, hS⟩
      case measure => simp [intOf]; omega
    · obtain rfl : (k : Int) = p := by omega
      go_wp2
      go_ret
      refine ⟨?_, q5⟩
      unfold cntV
      simp only [Int.toNat_natCast]
      refine ret_int ?_
      omega
def firstAt (p n : Int) (c : Int × Int) : Bool := cntV c.1 c.2 p == n
noncomputable def firstV (p n : Int) : Int × Int := if tabP p = true then ((tabL p).find? (firstAt p n)).getD (0, 0) else (0, 0)
noncomputable def firstB (p n : Int) : Bool := if tabP p = true then ((tabL p).find? (firstAt p n)).isSome else false
set_option maxHeartbeats 1000000 in
theorem c_iFirstCurveWith (p n : Int) (w : World) :
    Calls Try.prog 20 #[.int .i64 p, .int .i64 n] w fun e w' => e = .returned (.tuple #[.agg #[.int .i64 (firstV p n).1, .int .i64 (firstV p n).2], .bool (firstB p n)]) ∧ Below w.heap.size w w' := by
  cases h1 : tabP p
  · have HV : Hid (firstV p n = (0, 0)) := by show _ = _; unfold firstV; rw [h1]; rfl
    have HB : Hid (firstB p n = false) := by show _ = _; unfold firstB; rw [h1]; rfl
    go_enter Try.func20, Try.ntmps20
    go_wp2_with ((go_at_call 36; refine (c_isTablePrime _ _).mono ?_; rintro e w' ⟨rfl, rfl⟩))
    refine bodyPost_ret (v := .tuple #[.agg #[.int .i64 0, .int .i64 0], .bool false]) (by simp [results, Try.results20, go_sem]) rfl ⟨by rw [HV.out, HB.out], ?_⟩
    (repeat' (first | (with_reducible exact Below.refl _ _) | (with_reducible refine below_step (by assumption) ?_ ?_) | (with_reducible refine Below.alloc ?_ ?_ _) | (with_reducible refine Below.setCell ?_ ?_ _) | (with_reducible refine below_drewN ?_ _) | (with_reducible refine Below.drew ?_) | omega | (simp; omega) | (simp; done)))
  · obtain ⟨h5, h31, hpr⟩ := tabP_of h1
    have hlen := tabL_len (p := p) (by omega)
    have HV : Hid (firstV p n = ((tabL p).find? (firstAt p n)).getD (0, 0)) := by show _ = _; unfold firstV; rw [h1]; rfl
    have HB : Hid (firstB p n = ((tabL p).find? (firstAt p n)).isSome) := by show _ = _; unfold firstB; rw [h1]; rfl
    have HM : Hid (∀ k (h : k < (tabL p).length), (0 ≤ (tabL p)[k].1 ∧ (tabL p)[k].1 ≤ p - 1) ∧ (0 ≤ (tabL p)[k].2 ∧ (tabL p)[k].2 ≤ p - 1)) := fun k h => ⟨(tabL_mem (List.getElem_mem h)).1, (tabL_mem (List.getElem_mem h)).2.1⟩
    have HP := Lib.hid hpr
    have HP1 := Lib.hid h1
    clear hpr
    go_enter Try.func20, Try.ntmps20
    go_wp2_with ((go_at_call 36; refine (c_isTablePrime _ _).mono ?_; rintro e w' ⟨rfl, rfl⟩))
    clear h1
    refine (c_tableOf _ HP1.out _).mono ?_
    rintro e w1 ⟨v, rfl, hown, hb1⟩
    have hc1 := bcell hb1
    have hz1 := hb1.size
    simp only [World.size_alloc] at hz1
    have r0 : w1.cell? ⟨w.heap.size, 0, none⟩ = some (.int .i64 0) := (hc1.1 w.heap.size 0 (by simp)).trans (by simp [go_sem])
    have r1 : w1.cell? ⟨w.heap.size, 1, none⟩ = some (.int .i64 0) := (hc1.1 w.heap.size 1 (by simp)).trans (by simp [go_sem])
    have r2 : w1.frozen? ⟨w.heap.size, 0, none⟩ = false := (hc1.2 w.heap.size 0 (by simp)).trans (by simp [go_sem])
    have r3 : w1.frozen? ⟨w.heap.size, 1, none⟩ = false := (hc1.2 w.heap.size 1 (by simp)).trans (by simp [go_sem])
    have hbl : Below w.heap.size w w1 := by (repeat' (first | (with_reducible exact Below.refl _ _) | (with_reducible refine below_step (by assumption) ?_ ?_) | (with_reducible refine Below.alloc ?_ ?_ _) | (with_reducible refine Below.setCell ?_ ?_ _) | (with_reducible refine below_drewN ?_ _) | (with_reducible refine Below.drew ?_) | omega | (simp; omega) | (simp; done)))
    clear hc1 hb1
    obtain ⟨a, cap, rfl, hform⟩ := OwnsP.form hown
    have HF := Lib.hid hform
    clear hform hown
    go_wp2
    go_loopw [15] (fun i wr => ∃ k : Nat, k ≤ (tabL p).length ∧ i = .int .i64 k ∧ Hid (((tabL p).take k).find? (firstAt p n) = none) ∧ Below w1.heap.size w1 wr) (fun i _ => (tabL p).length - (intOf i).toNat)
    case atStart => exact ⟨0, Nat.zero_le _, rfl, rfl, Below.refl _ _⟩
    case round =>
      obtain ⟨k, hk, rfl, HN, hbr⟩ := hrel
      have hzr := hbr.size
      have s0 : wr.cell? ⟨w.heap.size, 0, none⟩ = some (.int .i64 0) := (hbr.cell (p := ⟨w.heap.size, 0, none⟩) (by show w.heap.size < w1.heap.size; omega)).trans r0
      have s1 : wr.cell? ⟨w.heap.size, 1, none⟩ = some (.int .i64 0) := (hbr.cell (p := ⟨w.heap.size, 1, none⟩) (by show w.heap.size < w1.heap.size; omega)).trans r1
      have s2 : wr.frozen? ⟨w.heap.size, 0, none⟩ = false := (hbr.frozen (p := ⟨w.heap.size, 0, none⟩) (by show w.heap.size < w1.heap.size; omega)).trans r2
      have s3 : wr.frozen? ⟨w.heap.size, 1, none⟩ = false := (hbr.frozen (p := ⟨w.heap.size, 1, none⟩) (by show w.heap.size < w1.heap.size; omega)).trans r3
      have t1 : w.heap.size < wr.heap.size := by omega
      by_cases hlt : k < (tabL p).length
      · obtain ⟨g, rfl, q1, q2, _, hg, _⟩ := HF.out k hlt
        have hm := HM.out k hlt
        have HT := Lib.hid (find_take (firstAt p n) (tabL p) k hlt HN.out)
        have HT2 := Lib.hid (find_take_no (firstAt p n) (tabL p) k hlt HN.out)
        have HA : Hid (firstAt p n (tabL p)[k] = (cntV (tabL p)[k].1 (tabL p)[k].2 p == n)) := rfl
        have d1 : wr.cell? ⟨g, k * 2, none⟩ = _ := (hbr.cell (p := ⟨g, k * 2, none⟩) hg).trans q1
        have d2 : wr.cell? ⟨g, k * 2 + 1, none⟩ = _ := (hbr.cell (p := ⟨g, k * 2 + 1, none⟩) hg).trans q2
        have hgr : g < wr.heap.size := by omega
        generalize hce : (tabL p)[k] = c at *
        have HC := Lib.hid hce
        obtain ⟨x, y⟩ := c
        simp only at d1 d2 hm q1 q2 HA
        clear hce q1 q2 r0 r1 r2 r3
        cases hq : (cntV x y p == n)
        · have HF2 : Hid (((tabL p).take (k + 1)).find? (firstAt p n) = none) := HT2.out (HA.out.trans hq)
          go_wp2_with fail
          (go_at_call 49; refine (c_countPoints _ _ _ (by omega) (by omega) (by omega) HP.out _).mono ?_; rintro e w2 ⟨rfl, hb2⟩; obtain ⟨hc2, hf2⟩ := bcell hb2; have hz2 := hb2.size; (try simp only [World.size_alloc] at hz2); (try (have hy2 : w.heap.size < w2.heap.size := by omega)); (try (have hx2 := Nat.lt_of_succ_le hz2)); (try (have hv2 := Nat.lt_of_succ_le (Nat.le_of_lt hx2))); (try (have hy2_1 : w1.heap.size < w2.heap.size := by omega)))
          have hbr2 : Below w1.heap.size w1 w2 := by (repeat' (first | (with_reducible exact Below.refl _ _) | (with_reducible refine below_step (by assumption) ?_ ?_) | (with_reducible refine Below.alloc ?_ ?_ _) | (with_reducible refine Below.setCell ?_ ?_ _) | (with_reducible refine below_drewN ?_ _) | (with_reducible refine Below.drew ?_) | omega | (simp; omega) | (simp; done)))
          go_wp2
          go_roundw
          case rel => exact ⟨k + 1, by omega, by go_num, HF2, hbr2⟩
          case measure => simp [intOf]; omega
        · have HF2 : Hid ((tabL p).find? (firstAt p n) = some (x, y)) := HT.out (HA.out.trans hq)
          go_wp2_with fail
          (go_at_call 49; refine (c_countPoints _ _ _ (by omega) (by omega) (by omega) HP.out _).mono ?_; rintro e w2 ⟨rfl, hb2⟩; obtain ⟨hc2, hf2⟩ := bcell hb2; have hz2 := hb2.size; (try simp only [World.size_alloc] at hz2); (try (have hy2 : w.heap.size < w2.heap.size := by omega)); (try (have hx2 := Nat.lt_of_succ_le hz2)); (try (have hv2 := Nat.lt_of_succ_le (Nat.le_of_lt hx2))); (try (have hy2_1 : w1.heap.size < w2.heap.size := by omega)))
          go_wp2
          have z0 : w2.cell? ⟨w.heap.size, 0, none⟩ = some (.int .i64 0) := (hc2 w.heap.size 0 (by simp; omega)).trans (by simp [go_sem, s0, t1])
          have z1 : w2.cell? ⟨w.heap.size, 1, none⟩ = some (.int .i64 0) := (hc2 w.heap.size 1 (by simp; omega)).trans (by simp [go_sem, s1, t1])
          refine bodyPost_ret (v := .tuple #[.agg #[.int .i64 x, .int .i64 y], .bool true]) (by simp [results, Try.results20, go_sem, z0, z1]) rfl ⟨by rw [HV.out, HB.out, HF2.out]; rfl, ?_⟩
          (repeat' (first | (with_reducible exact Below.refl _ _) | (with_reducible refine below_step (by assumption) ?_ ?_) | (with_reducible refine Below.alloc ?_ ?_ _) | (with_reducible refine Below.setCell ?_ ?_ _) | (with_reducible refine below_drewN ?_ _) | (with_reducible refine Below.drew ?_) | omega | (simp; omega) | (simp; done)))
      · obtain rfl : k = (tabL p).length := by omega
        have HF2 : Hid ((tabL p).find? (firstAt p n) = none) := by have := HN.out; rwa [List.take_length] at this
        go_wp2
        refine bodyPost_ret (v := .tuple #[.agg #[.int .i64 0, .int .i64 0], .bool false]) (by simp [results, Try.results20, go_sem, s0, s1]) rfl ⟨by rw [HV.out, HB.out, HF2.out]; rfl, ?_⟩
        (repeat' (first | (with_reducible exact Below.refl _ _) | (with_reducible refine below_step (by assumption) ?_ ?_) | (with_reducible refine Below.alloc ?_ ?_ _) | (with_reducible refine Below.setCell ?_ ?_ _) | (with_reducible refine below_drewN ?_ _) | (with_reducible refine Below.drew ?_) | omega | (simp; omega) | (simp; done)))
set_option maxHeartbeats 1000000 in
theorem c_sFirstCurveWith (p n : Int) (w : World) :
    Calls Try.prog 21 #[.int .i64 p, .int .i64 n] w fun e w' => e = .returned (.tuple #[.agg #[.int .i64 (firstV p n).1, .int .i64 (firstV p n).2], .bool (firstB p n)]) ∧ Below w.heap.size w w' := by
  cases h1 : tabP p
  · have HV : Hid (firstV p n = (0, 0)) := by show _ = _; unfold firstV; rw [h1]; rfl
    have HB : Hid (firstB p n = false) := by show _ = _; unfold firstB; rw [h1]; rfl
    go_enter Try.func21, Try.ntmps21
    go_wp2_with ((go_at_call 39; refine (c_ctPrime _ _).mono ?_; rintro e w' ⟨rfl, rfl⟩))
    refine bodyPost_ret (v := .tuple #[.agg #[.int .i64 0, .int .i64 0], .bool false]) (by simp [results, Try.results21, go_sem]) rfl ⟨by rw [HV.out, HB.out], ?_⟩
    (repeat' (first | (with_reducible exact Below.refl _ _) | (with_reducible refine below_step (by assumption) ?_ ?_) | (with_reducible refine Below.alloc ?_ ?_ _) | (with_reducible refine Below.setCell ?_ ?_ _) | (with_reducible refine below_drewN ?_ _) | (with_reducible refine Below.drew ?_) | omega | (simp; omega) | (simp; done)))
  · obtain ⟨h5, h31, hpr⟩ := tabP_of h1
    have hlen := tabL_len (p := p) (by omega)
    have HV : Hid (firstV p n = ((tabL p).find? (firstAt p n)).getD (0, 0)) := by show _ = _; unfold firstV; rw [h1]; rfl
    have HB : Hid (firstB p n = ((tabL p).find? (firstAt p n)).isSome) := by show _ = _; unfold firstB; rw [h1]; rfl
    have HM : Hid (∀ k (h : k < (tabL p).length), (0 ≤ (tabL p)[k].1 ∧ (tabL p)[k].1 ≤ p - 1) ∧ (0 ≤ (tabL p)[k].2 ∧ (tabL p)[k].2 ≤ p - 1)) := fun k h => ⟨(tabL_mem (List.getElem_mem h)).1, (tabL_mem (List.getElem_mem h)).2.1⟩
    have HP := Lib.hid hpr
    have HP1 := Lib.hid h1
    clear hpr
    go_enter Try.func21, Try.ntmps21
    go_wp2_with ((go_at_call 39; refine (c_ctPrime _ _).mono ?_; rintro e w' ⟨rfl, rfl⟩))
    clear h1
    refine (c_ctAll _ HP1.out _).mono ?_
    rintro e w1 ⟨v, rfl, hown, hb1⟩
    have hc1 := bcell hb1
    have hz1 := hb1.size
    simp only [World.size_alloc] at hz1
    have r0 : w1.cell? ⟨w.heap.size, 0, none⟩ = some (.int .i64 0) := (hc1.1 w.heap.size 0 (by simp)).trans (by simp [go_sem])
    have r1 : w1.cell? ⟨w.heap.size, 1, none⟩ = some (.int .i64 0) := (hc1.1 w.heap.size 1 (by simp)).trans (by simp [go_sem])
    have r2 : w1.frozen? ⟨w.heap.size, 0, none⟩ = false := (hc1.2 w.heap.size 0 (by simp)).trans (by simp [go_sem])
    have r3 : w1.frozen? ⟨w.heap.size, 1, none⟩ = false := (hc1.2 w.heap.size 1 (by simp)).trans (by simp [go_sem])
    have hbl : Below w.heap.size w w1 := by (repeat' (first | (with_reducible exact Below.refl _ _) | (with_reducible refine below_step (by assumption) ?_ ?_) | (with_reducible refine Below.alloc ?_ ?_ _) | (with_reducible refine Below.setCell ?_ ?_ _) | (with_reducible refine below_drewN ?_ _) | (with_reducible refine Below.drew ?_) | omega | (simp; omega) | (simp; done)))
    clear hc1 hb1
    obtain ⟨a, cap, rfl, hform⟩ := OwnsP.form hown
    have HF := Lib.hid hform
    clear hform hown
    go_wp2
    go_loopw [15] (fun i wr => ∃ k : Nat, k ≤ (tabL p).length ∧ i = .int .i64 k ∧ Hid (((tabL p).take k).find? (firstAt p n) = none) ∧ Below w1.heap.size w1 wr) (fun i _ => (tabL p).length - (intOf i).toNat)
    case atStart => exact ⟨0, Nat.zero_le _, rfl, rfl, Below.refl _ _⟩
    case round =>
      obtain ⟨k, hk, rfl, HN, hbr⟩ := hrel
      have hzr := hbr.size
      have s0 : wr.cell? ⟨w.heap.size, 0, none⟩ = some (.int .i64 0) := (hbr.cell (p := ⟨w.heap.size, 0, none⟩) (by show w.heap.size < w1.heap.size; omega)).trans r0
      have s1 : wr.cell? ⟨w.heap.size, 1, none⟩ = some (.int .i64 0) := (hbr.cell (p := ⟨w.heap.size, 1, none⟩) (by show w.heap.size < w1.heap.size; omega)).trans r1
      have s2 : wr.frozen? ⟨w.heap.size, 0, none⟩ = false := (hbr.frozen (p := ⟨w.heap.size, 0, none⟩) (by show w.heap.size < w1.heap.size; omega)).trans r2
      have s3 : wr.frozen? ⟨w.heap.size, 1, none⟩ = false := (hbr.frozen (p := ⟨w.heap.size, 1, none⟩) (by show w.heap.size < w1.heap.size; omega)).trans r3
      have t1 : w.heap.size < wr.heap.size := by omega
      by_cases hlt : k < (tabL p).length
      · obtain ⟨g, rfl, q1, q2, _, hg, _⟩ := HF.out k hlt
        have hm := HM.out k hlt
        have HT := Lib.hid (find_take (firstAt p n) (tabL p) k hlt HN.out)
        have HT2 := Lib.hid (find_take_no (firstAt p n) (tabL p) k hlt HN.out)
        have HA : Hid (firstAt p n (tabL p)[k] = (cntV (tabL p)[k].1 (tabL p)[k].2 p == n)) := rfl
        have d1 : wr.cell? ⟨g, k * 2, none⟩ = _ := (hbr.cell (p := ⟨g, k * 2, none⟩) hg).trans q1
        have d2 : wr.cell? ⟨g, k * 2 + 1, none⟩ = _ := (hbr.cell (p := ⟨g, k * 2 + 1, none⟩) hg).trans q2
        have hgr : g < wr.heap.size := by omega
        generalize hce : (tabL p)[k] = c at *
        have HC := Lib.hid hce
        obtain ⟨x, y⟩ := c
        simp only at d1 d2 hm q1 q2 HA
        clear hce q1 q2 r0 r1 r2 r3
        cases hq : (cntV x y p == n)
        · have HF2 : Hid (((tabL p).take (k + 1)).find? (firstAt p n) = none) := HT2.out (HA.out.trans hq)
          go_wp2_with fail
          (go_at_call 54; refine (c_fmCount _ _ _ (by omega) (by omega) (by omega) HP.out _).mono ?_; rintro e w2 ⟨rfl, hb2⟩; obtain ⟨hc2, hf2⟩ := bcell hb2; have hz2 := hb2.size; (try simp only [World.size_alloc] at hz2); (try (have hy2 : w.heap.size < w2.heap.size := by omega)); (try (have hx2 := Nat.lt_of_succ_le hz2)); (try (have hv2 := Nat.lt_of_succ_le (Nat.le_of_lt hx2))); (try (have hy2_1 : w1.heap.size < w2.heap.size := by omega)))
          have hbr2 : Below w1.heap.size w1 w2 := by (repeat' (first | (with_reducible exact Below.refl _ _) | (with_reducible refine below_step (by assumption) ?_ ?_) | (with_reducible refine Below.alloc ?_ ?_ _) | (with_reducible refine Below.setCell ?_ ?_ _) | (with_reducible refine below_drewN ?_ _) | (with_reducible refine Below.drew ?_) | omega | (simp; omega) | (simp; done)))
          go_wp2
          go_roundw
          case rel => exact ⟨k + 1, by omega, by go_num, HF2, hbr2⟩
          case measure => simp [intOf]; omega
        · have HF2 : Hid ((tabL p).find? (firstAt p n) = some (x, y)) := HT.out (HA.out.trans hq)
          go_wp2_with fail
          (go_at_call 54; refine (c_fmCount _ _ _ (by omega) (by omega) (by omega) HP.out _).mono ?_; rintro e w2 ⟨rfl, hb2⟩; obtain ⟨hc2, hf2⟩ := bcell hb2; have hz2 := hb2.size; (try simp only [World.size_alloc] at hz2); (try (have hy2 : w.heap.size < w2.heap.size := by omega)); (try (have hx2 := Nat.lt_of_succ_le hz2)); (try (have hv2 := Nat.lt_of_succ_le (Nat.le_of_lt hx2))); (try (have hy2_1 : w1.heap.size < w2.heap.size := by omega)))
          go_wp2
          have z0 : w2.cell? ⟨w.heap.size, 0, none⟩ = some (.int .i64 0) := (hc2 w.heap.size 0 (by simp; omega)).trans (by simp [go_sem, s0, t1])
          have z1 : w2.cell? ⟨w.heap.size, 1, none⟩ = some (.int .i64 0) := (hc2 w.heap.size 1 (by simp; omega)).trans (by simp [go_sem, s1, t1])
          refine bodyPost_ret (v := .tuple #[.agg #[.int .i64 x, .int .i64 y], .bool true]) (by simp [results, Try.results21, go_sem, z0, z1]) rfl ⟨by rw [HV.out, HB.out, HF2.out]; rfl, ?_⟩
          (repeat' (first | (with_reducible exact Below.refl _ _) | (with_reducible refine below_step (by assumption) ?_ ?_) | (with_reducible refine Below.alloc ?_ ?_ _) | (with_reducible refine Below.setCell ?_ ?_ _) | (with_reducible refine below_drewN ?_ _) | (with_reducible refine Below.drew ?_) | omega | (simp; omega) | (simp; done)))
      · obtain rfl : k = (tabL p).length := by omega
        have HF2 : Hid ((tabL p).find? (firstAt p n) = none) := by have := HN.out; rwa [List.take_length] at this
        go_wp2
        refine bodyPost_ret (v := .tuple #[.agg #[.int .i64 0, .int .i64 0], .bool false]) (by simp [results, Try.results21, go_sem, s0, s1]) rfl ⟨by rw [HV.out, HB.out, HF2.out]; rfl, ?_⟩
        (repeat' (first | (with_reducible exact Below.refl _ _) | (with_reducible refine below_step (by assumption) ?_ ?_) | (with_reducible refine Below.alloc ?_ ?_ _) | (with_reducible refine Below.setCell ?_ ?_ _) | (with_reducible refine below_drewN ?_ _) | (with_reducible refine Below.drew ?_) | omega | (simp; omega) | (simp; done)))
end Go.Proofs.Ytilgeeaobdebhaa
