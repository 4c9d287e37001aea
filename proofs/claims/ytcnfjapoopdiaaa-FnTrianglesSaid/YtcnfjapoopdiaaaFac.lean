/- Walks: lists of prime factors, square classes. -/
import Derived.Test.YtcnfjapoopdiaaaFacList
import Derived.Test.YtcnfjapoopdiaaaFacPlain
import Derived.Test.YtcnfjapoopdiaaaTwist
namespace Go.Proofs.Ytcnfjapoopdiaaa
open Go.RowKit
set_option maxHeartbeats 1000000 in
theorem c_mdFactors (m : Int) (hb : 0 ≤ m ∧ m ≤ 10000000000) (w : World) :
    Calls Try.prog 94 #[.int .i64 m] w fun e w' => ∃ v, e = .returned v ∧ OwnsF w' w.heap.size v (factL m) ∧ Below w.heap.size w w' := by
  go_enter Try.func94, Try.ntmps94
  go_wp2
  go_loopw [0, 3, 4] (fun x v y wr => ∃ (n p : Int) (xs : List (Int × Int)) (f : Nat), x = .int .i64 n ∧ y = .int .i64 p ∧ OwnsF wr w.heap.size v xs ∧ Below w.heap.size w wr ∧ 0 ≤ n ∧ n ≤ 10000000000 ∧ 2 ≤ p ∧ p ≤ 10000000001 ∧ ((xs.length : Int) + 2 ≤ p ∧ p ≤ 100001 ∨ n ≤ 1 ∧ xs.length ≤ 100001) ∧ (msP n p ≤ f ∧ True) ∧ Hid (xs ++ factF f n p = factL m)) (fun x _ y _ => msP (intOf x) (intOf y))
  case atStart =>
    refine ⟨_, 2, [], 2 * m.toNat, rfl, rfl, OwnsF.nil _ _, Below.refl _ _, by omega, by omega, by omega, by omega, .inl ⟨by simp, by omega⟩, ⟨?_, trivial⟩, ?_⟩
    · unfold msP; split <;> omega
    · show _ = _
      rw [List.nil_append]; rfl
  case round =>
    obtain ⟨n, p, xs, f, rfl, rfl, hown, hbl, hn0, hn1, hp2, hpm, hps, ⟨hf, _⟩, H⟩ := hrel
    have hz := hbl.size
    by_cases h1 : 1 < n
    · have hps' : (xs.length : Int) + 2 ≤ p ∧ p ≤ 100001 := by omega
      have hpp : 0 ≤ p * p ∧ p * p ≤ 10000200001 := ⟨Int.mul_nonneg (by omega) (by omega), by have := Int.mul_le_mul hps'.2 hps'.2 (by omega) (by omega); omega⟩
      obtain ⟨f', rfl⟩ : ∃ f', f = f' + 1 := ⟨f - 1, by unfold msP at hf; rw [if_pos h1] at hf; omega⟩
      clear hps
      by_cases h2 : n < p * p
      · have HF : Hid (xs ++ factF (f' + 1) n p = (xs ++ [(n, val n n)]) ++ factF f' (strip n n) (n + 1)) := by
          show _ = _
          rw [factF_big f' h1 h2, strip_self (by omega), factF_one _ (by omega), List.append_nil]
        have HB : ∀ y : Int, Hid (y = strip n n) → (((xs ++ [(n, val n n)]).length : Int) + 2 ≤ n + 1 ∧ n + 1 ≤ 100001 ∨ y ≤ 1 ∧ (xs ++ [(n, val n n)]).length ≤ 100001) := fun y hy => .inr ⟨by rw [hy.out, strip_self (by omega)]; omega, by simp; omega⟩
        have HM : ∀ y : Int, Hid (y = strip n n) → y ≤ n → (msP y (n + 1) ≤ f' ∧ msP y (n + 1) < msP n p) := fun y hy _ => ms_big h1 hf hy.out
        have hk1 := val_pos (q := n) (show 1 ≤ n by omega) Int.emod_self
        have hk0 : 0 ≤ val n n := by omega
        have hk2 : val n n ≤ n.natAbs := valF_le _ _ _
        have hq : 2 ≤ n := by omega
        go_wp2_with (first | (at_builtin; refine wpList_app_fac (p := n) (k := val n n) rfl _ _ rfl w.heap.size _ _ rfl hown rfl (by omega) hz ?_; intro v' w1 hown1 hb1) | (go_at_call 104; refine (c_mdValuation _ _ (by omega) (by omega) (by omega) _).mono ?_; rintro e w' ⟨rfl, rfl⟩))
        have hbl1 := hbl.trans hb1
        clear hb1 hown hbl
        go_loop [0, 5] (fun x j => ∃ (y : Int) (i : Nat), x = .int .i64 y ∧ j = .int .i64 (i : Int) ∧ 0 ≤ y ∧ y ≤ n ∧ (i : Int) ≤ 10000000000 ∧ Hid (divF i y n = strip n n)) (fun _ j => (intOf j).toNat)
        case atStart => exact ⟨n, (val n n).toNat, rfl, by rw [Int.toNat_of_nonneg hk0], by omega, by omega, by omega, div_strip' (by omega)⟩
        case round =>
          obtain ⟨y, i, rfl, rfl, hy1, hyn, hi, HS⟩ := hrel
          by_cases h5 : 0 < i
          · obtain ⟨i', rfl⟩ : ∃ i', i = i' + 1 := ⟨i - 1, by omega⟩
            have d1 : 0 ≤ y / n := Int.ediv_nonneg hy1 (by omega)
            have d2 : y / n ≤ n := Int.le_trans (Int.ediv_le_self _ hy1) hyn
            go_wp2
            go_round
            case rel => exact ⟨y / n, i', rfl, by go_num, d1, d2, by omega, HS⟩
            case measure => simp [intOf]
          · have hi0 : i = 0 := by omega
            subst hi0
            have HZ : Hid (y = strip n n) := HS
            clear HS
            go_wp2
            go_roundw
            case rel => exact ⟨y, n + 1, xs ++ [(n, val n n)], f', rfl, rfl, hown1, hbl1, by omega, by omega, by omega, by omega, HB y HZ, ⟨(HM y HZ hyn).1, trivial⟩, by show _ = _; rw [HZ.out, ← HF.out]; exact H⟩
            case measure => have := HM y HZ hyn; simp [intOf]; omega
      · obtain ⟨hr1, hr2⟩ := root_bd hp2 h2 hn1
        by_cases h3 : n % p = 0
        · have HF : Hid (xs ++ factF (f' + 1) n p = (xs ++ [(p, val n p)]) ++ factF f' (strip n p) (p + 1)) := by
            show _ = _
            rw [factF_yes f' h1 h2 h3]; simp
          have HB : ∀ y : Int, Hid (y = strip n p) → (((xs ++ [(p, val n p)]).length : Int) + 2 ≤ p + 1 ∧ p + 1 ≤ 100001 ∨ y ≤ 1 ∧ (xs ++ [(p, val n p)]).length ≤ 100001) := fun y hy => .inl ⟨by simp; omega, by omega⟩
          have HM : ∀ y : Int, Hid (y = strip n p) → y ≤ n → (msP y (p + 1) ≤ f' ∧ msP y (p + 1) < msP n p) := fun y _ hyn => ms_small h1 hr2 hf hyn
          have hk1 := val_pos (show 1 ≤ n by omega) h3
          have hk0 : 0 ≤ val n p := by omega
          have hk2 : val n p ≤ n.natAbs := valF_le _ _ _
          have hq : 2 ≤ p := by omega
          clear h3
          go_wp2_with (first | (at_builtin; refine wpList_app_fac (p := p) (k := val n p) rfl _ _ rfl w.heap.size _ _ rfl hown rfl (by omega) hz ?_; intro v' w1 hown1 hb1) | (go_at_call 104; refine (c_mdValuation _ _ (by omega) (by omega) (by omega) _).mono ?_; rintro e w' ⟨rfl, rfl⟩))
          have hbl1 := hbl.trans hb1
          clear hb1 hown hbl
          go_loop [0, 5] (fun x j => ∃ (y : Int) (i : Nat), x = .int .i64 y ∧ j = .int .i64 (i : Int) ∧ 0 ≤ y ∧ y ≤ n ∧ (i : Int) ≤ 10000000000 ∧ Hid (divF i y p = strip n p)) (fun _ j => (intOf j).toNat)
          case atStart => exact ⟨n, (val n p).toNat, rfl, by rw [Int.toNat_of_nonneg hk0], by omega, by omega, by omega, div_strip' (by omega)⟩
          case round =>
            obtain ⟨y, i, rfl, rfl, hy1, hyn, hi, HS⟩ := hrel
            by_cases h5 : 0 < i
            · obtain ⟨i', rfl⟩ : ∃ i', i = i' + 1 := ⟨i - 1, by omega⟩
              have d1 : 0 ≤ y / p := Int.ediv_nonneg hy1 (by omega)
              have d2 : y / p ≤ n := Int.le_trans (Int.ediv_le_self _ hy1) hyn
              go_wp2
              go_round
              case rel => exact ⟨y / p, i', rfl, by go_num, d1, d2, by omega, HS⟩
              case measure => simp [intOf]
            · have hi0 : i = 0 := by omega
              subst hi0
              have HZ : Hid (y = strip n p) := HS
              clear HS
              go_wp2
              go_roundw
              case rel => exact ⟨y, p + 1, xs ++ [(p, val n p)], f', rfl, rfl, hown1, hbl1, by omega, by omega, by omega, by omega, HB y HZ, ⟨(HM y HZ hyn).1, trivial⟩, by show _ = _; rw [HZ.out, ← HF.out]; exact H⟩
              case measure => have := HM y HZ hyn; simp [intOf]; omega
        · have HF := Lib.hid (factF_no f' h1 h2 h3)
          have hv := val_zero h3
          have HM := ms_small h1 hr2 hf (Int.le_refl n)
          clear h3
          go_wp2_with (first | (go_at_call 104; refine (c_mdValuation _ _ (by omega) (by omega) (by omega) _).mono ?_; rintro e w' ⟨rfl, rfl⟩))
          go_roundw
          case rel => exact ⟨n, p + 1, xs, f', rfl, rfl, hown, hbl, by omega, by omega, by omega, by omega, .inl ⟨by omega, by omega⟩, ⟨HM.1, trivial⟩, by show _ = _; rw [← HF.out]; exact H⟩
          case measure => simp [intOf]; omega
    · have HF := Lib.hid (factF_one f (p := p) (show n ≤ 1 by omega))
      go_wp2
      go_ret
      refine ⟨_, rfl, ?_, hbl⟩
      have := H.out
      rw [HF.out, List.append_nil] at this
      rw [← this]; exact hown
set_option maxHeartbeats 1000000 in
theorem c_tcClass (n : Int) (hb : 1 ≤ n ∧ n ≤ 31) (w : World) :
    Calls Try.prog 64 #[.int .i64 n] w fun e w' => e = .returned (.int .i64 (cls n)) ∧ Below w.heap.size w w' := by
  obtain ⟨hp1, hp2, hp3⟩ := cls_small (n := n) (by omega) (by omega)
  rw [if_pos (by omega)] at hp3
  have Hp2 := Lib.hid hp2
  have Hp3 := Lib.hid hp3
  have Hcl : Hid (cls n = clsF (factL n.natAbs) 1) := by show _ = _; unfold cls; rw [if_pos (by omega)]
  have Hs : Hid (signI n = 1) := by show _ = _; unfold signI; rw [if_pos (by omega)]
  clear hp2 hp3
  go_enter Try.func64, Try.ntmps64
  go_wp2_with ((go_at_call 93; refine (c_l1Sign _ _).mono ?_; rintro e w' ⟨rfl, rfl⟩))
  have Hs' := Hs.out
  rw [Hs']
  clear Hs'
  go_wp2_with ((go_at_call 72; refine (c_l1Abs _ (by omega) _).mono ?_; rintro e w' ⟨rfl, rfl⟩))
  refine (c_mdFactors _ (by omega) _).mono ?_
  rintro e w1 ⟨v, rfl, hown, hbl⟩
  obtain ⟨a, cap, rfl, hcell⟩ := hown.form
  have Hc := Lib.hid hcell
  clear hcell
  generalize hL : factL n.natAbs = L at *
  have HL := Lib.hid hL
  clear hL hown
  go_wp2
  go_loop [3, 12] (fun o i => ∃ k : Nat, k ≤ L.length ∧ i = .int .i64 k ∧ o = .int .i64 (clsF (L.take k) 1)) (fun _ i => L.length - (intOf i).toNat)
  case atStart => exact ⟨0, Nat.zero_le _, rfl, by simp [clsF]⟩
  case round =>
    obtain ⟨k, hk, rfl, rfl⟩ := hrel
    by_cases hlt : k < L.length
    · obtain ⟨g, g', rfl, hcx, hc0, hc1, hgl⟩ := Hc.out k hlt
      have h2 := Hp2.out k hlt
      have h3 := Hp3.out k (by omega)
      have h4 := Hp3.out (k + 1) (by omega)
      have HS := Lib.hid (clsF_take L 1 hlt)
      generalize hx : L[k].1 = x at hc0 h2 HS
      generalize hy : L[k].2 = y at hc1 h2 HS
      have HX := Lib.hid hx
      have HY := Lib.hid hy
      clear hx hy
      by_cases hv : y % 2 = 1
      · have hh : (y % 2 == 1) = true := by simp [hv]
        rw [if_pos hv] at HS
        have h5 : -31 ≤ clsF (L.take k) 1 * x ∧ clsF (L.take k) 1 * x ≤ 31 := by rw [← HS.out]; exact h4
        clear hv h4
        go_wp2
        go_round
        case rel => exact ⟨k + 1, by omega, by go_num, by rw [HS.out]⟩
        case measure => simp [intOf]; omega
      · have hh : (y % 2 == 1) = false := by simp [hv]
        rw [if_neg hv] at HS
        clear hv h4
        go_wp2
        go_round
        case rel => exact ⟨k + 1, by omega, by go_num, by rw [HS.out]⟩
        case measure => simp [intOf]; omega
    · go_wp2
      go_ret
      refine ⟨?_, hbl⟩
      have : L.take k = L := List.take_of_length_le (by omega)
      rw [this, Hcl.out]; rfl
noncomputable def areaB (n : Int) : Bool := inB n 1 31 && freeB n
theorem c_cnGood (n : Int) (w : World) :
    Calls Try.prog 27 #[.int .i64 n] w fun e w' => e = .returned (.bool (areaB n)) ∧ Below w.heap.size w w' := by
  unfold areaB
  cases h1 : inB n 1 31
  · go_enter Try.func27, Try.ntmps27
    go_wp2_with ((go_at_call 53; refine (c_l1In _ _ _ _).mono ?_; rintro e w' ⟨rfl, rfl⟩))
    go_ret
    exact ⟨rfl, Below.refl _ _⟩
  · have hb := inB_true h1
    have HS := Lib.hid (sqf_eq (show n ≠ 0 by omega) (show -31 ≤ n by omega) (by omega))
    have HC := Lib.hid (cls_eq (show n ≠ 0 by omega) (show -31 ≤ n by omega) (by omega))
    go_enter Try.func27, Try.ntmps27
    go_wp2_with (first | (go_at_call 53; refine (c_l1In _ _ _ _).mono ?_; rintro e w' ⟨rfl, rfl⟩) | (go_at_call 64; refine (c_tcClass _ hb _).mono ?_; rintro e w1 ⟨rfl, hb1⟩; obtain ⟨hc1, hf1⟩ := bcell hb1; have hz1 := hb1.size; (try simp only [World.size_alloc] at hz1); (try (have hy1 : w.heap.size < w1.heap.size := by omega)); (try (have hx1 := Nat.lt_of_succ_le hz1)); (try (have hv1 := Nat.lt_of_succ_le (Nat.le_of_lt hx1)))))
    go_ret
    exact ⟨by rw [← HS.out, ← HC.out]; rfl, hb1⟩
theorem c_isArea (n : Int) (w : World) :
    Calls Try.prog 32 #[.int .i64 n] w fun e w' => e = .returned (.bool (areaB n)) ∧ Below w.heap.size w w' := by
  unfold areaB
  cases h1 : inB n 1 31
  · go_enter Try.func32, Try.ntmps32
    go_wp2_with ((go_at_call 66; refine (c_inside _ _ _ _).mono ?_; rintro e w' ⟨rfl, rfl⟩))
    go_ret
    exact ⟨rfl, Below.refl _ _⟩
  · have hb := inB_true h1
    have HS := Lib.hid (sqf_eq (show n ≠ 0 by omega) (show -31 ≤ n by omega) (by omega))
    go_enter Try.func32, Try.ntmps32
    go_wp2_with (first | (go_at_call 66; refine (c_inside _ _ _ _).mono ?_; rintro e w' ⟨rfl, rfl⟩) | (go_at_call 76; refine (c_squarefree _ (by omega) (by omega) _).mono ?_; rintro e w1 ⟨rfl, hb1⟩; obtain ⟨hc1, hf1⟩ := bcell hb1; have hz1 := hb1.size; (try simp only [World.size_alloc] at hz1); (try (have hy1 : w.heap.size < w1.heap.size := by omega)); (try (have hx1 := Nat.lt_of_succ_le hz1)); (try (have hv1 := Nat.lt_of_succ_le (Nat.le_of_lt hx1)))))
    go_ret
    exact ⟨by rw [← HS.out]; rfl, hb1⟩
theorem c_iIsAreaNumber (n : Int) (w : World) :
    Calls Try.prog 22 #[.int .i64 n] w fun e w' => e = .returned (.bool (areaB n)) ∧ Below w.heap.size w w' := by
  go_enter Try.func22, Try.ntmps22
  go_wp2_with ((go_at_call 32; refine (c_isArea _ _).mono ?_; rintro e w1 ⟨rfl, hb1⟩; obtain ⟨hc1, hf1⟩ := bcell hb1; have hz1 := hb1.size; (try simp only [World.size_alloc] at hz1); (try (have hy1 : w.heap.size < w1.heap.size := by omega)); (try (have hx1 := Nat.lt_of_succ_le hz1)); (try (have hv1 := Nat.lt_of_succ_le (Nat.le_of_lt hx1)))))
  go_ret
  exact ⟨rfl, hb1⟩
def congA (n : Int) : Int := -n * n
theorem congA_bd {n : Int} (h : 1 ≤ n) (h1 : n ≤ 31) : -961 ≤ -n * n ∧ -n * n ≤ 0 := by
  have h2 := Int.mul_le_mul h1 h1 (by omega) (by omega)
  have h3 := Int.mul_nonneg (show 0 ≤ n by omega) (show 0 ≤ n by omega)
  rw [Int.neg_mul]
  omega
theorem c_cnCurve (n : Int) (h : 1 ≤ n) (h1 : n ≤ 31) (w : World) :
    Calls Try.prog 29 #[.int .i64 n] w fun e w' => e = .returned (.agg #[.int .i64 (congA n), .int .i64 0]) ∧ Below w.heap.size w w' := by
  have hb := congA_bd h h1
  go_enter Try.func29, Try.ntmps29
  go_wp2
  go_returns
  refine ⟨rfl, ?_⟩
  go_grown
theorem congA_of {n : Int} (hs : areaB n = true) : 1 ≤ n ∧ n ≤ 31 := by unfold areaB at hs; simp at hs; exact inB_true hs.1
theorem c_sCongruentCurve (n : Int) (w : World) :
    Calls Try.prog 21 #[.int .i64 n] w fun e w' => e = .returned (.tuple #[.agg #[.int .i64 (if areaB n then congA n else 0), .int .i64 0], .bool (areaB n)]) ∧ Below w.heap.size w w' := by
  cases hs : areaB n
  · go_enter Try.func21, Try.ntmps21
    go_wp2_with ((go_at_call 27; refine (c_cnGood _ _).mono ?_; rintro e w1 ⟨rfl, hb1⟩; obtain ⟨hc1, hf1⟩ := bcell hb1; have hz1 := hb1.size; (try simp only [World.size_alloc] at hz1); (try (have hy1 : w.heap.size < w1.heap.size := by omega)); (try (have hx1 := Nat.lt_of_succ_le hz1)); (try (have hv1 := Nat.lt_of_succ_le (Nat.le_of_lt hx1)))))
    refine bodyPost_ret (v := .tuple #[.agg #[.int .i64 0, .int .i64 0], .bool false]) (by simp [results, Try.results21, go_sem, hc1]) rfl ⟨rfl, ?_⟩
    (repeat' (first | (with_reducible exact Below.refl _ _) | (with_reducible refine below_step (by assumption) ?_ ?_) | (with_reducible refine Below.alloc ?_ ?_ _) | (with_reducible refine Below.setCell ?_ ?_ _) | (with_reducible refine below_drewN ?_ _) | (with_reducible refine Below.drew ?_) | omega | (simp; omega) | (simp; done)))
  · have hb := congA_of hs
    go_enter Try.func21, Try.ntmps21
    go_wp2_with (first | (go_at_call 27; refine (c_cnGood _ _).mono ?_; rintro e w1 ⟨rfl, hb1⟩; obtain ⟨hc1, hf1⟩ := bcell hb1; have hz1 := hb1.size; (try simp only [World.size_alloc] at hz1); (try (have hy1 : w.heap.size < w1.heap.size := by omega)); (try (have hx1 := Nat.lt_of_succ_le hz1)); (try (have hv1 := Nat.lt_of_succ_le (Nat.le_of_lt hx1)))) | (go_at_call 29; refine (c_cnCurve _ hb.1 hb.2 _).mono ?_; rintro e w2 ⟨rfl, hb2⟩; obtain ⟨hc2, hf2⟩ := bcell hb2; have hz2 := hb2.size; (try simp only [World.size_alloc] at hz2); (try (have hy2 : w.heap.size < w2.heap.size := by omega)); (try (have hx2 := Nat.lt_of_succ_le hz2)); (try (have hv2 := Nat.lt_of_succ_le (Nat.le_of_lt hx2))); (try (have hy2_1 : w1.heap.size < w2.heap.size := by omega))))
    refine bodyPost_ret (v := .tuple #[.agg #[.int .i64 (congA n), .int .i64 0], .bool true]) (by simp [results, Try.results21, go_sem, hc2, hc1, hy1]) rfl ⟨rfl, ?_⟩
    (repeat' (first | (with_reducible exact Below.refl _ _) | (with_reducible refine below_step (by assumption) ?_ ?_) | (with_reducible refine Below.alloc ?_ ?_ _) | (with_reducible refine Below.setCell ?_ ?_ _) | (with_reducible refine below_drewN ?_ _) | (with_reducible refine Below.drew ?_) | omega | (simp; omega) | (simp; done)))
theorem c_iCongruentCurve (n : Int) (w : World) :
    Calls Try.prog 20 #[.int .i64 n] w fun e w' => e = .returned (.tuple #[.agg #[.int .i64 (if areaB n then congA n else 0), .int .i64 0], .bool (areaB n)]) ∧ Below w.heap.size w w' := by
  cases hs : areaB n
  · go_enter Try.func20, Try.ntmps20
    go_wp2_with ((go_at_call 32; refine (c_isArea _ _).mono ?_; rintro e w1 ⟨rfl, hb1⟩; obtain ⟨hc1, hf1⟩ := bcell hb1; have hz1 := hb1.size; (try simp only [World.size_alloc] at hz1); (try (have hy1 : w.heap.size < w1.heap.size := by omega)); (try (have hx1 := Nat.lt_of_succ_le hz1)); (try (have hv1 := Nat.lt_of_succ_le (Nat.le_of_lt hx1)))))
    refine bodyPost_ret (v := .tuple #[.agg #[.int .i64 0, .int .i64 0], .bool false]) (by simp [results, Try.results20, go_sem, hc1]) rfl ⟨rfl, ?_⟩
    (repeat' (first | (with_reducible exact Below.refl _ _) | (with_reducible refine below_step (by assumption) ?_ ?_) | (with_reducible refine Below.alloc ?_ ?_ _) | (with_reducible refine Below.setCell ?_ ?_ _) | (with_reducible refine below_drewN ?_ _) | (with_reducible refine Below.drew ?_) | omega | (simp; omega) | (simp; done)))
  · have hb := congA_of hs
    have hb2 := congA_bd hb.1 hb.2
    go_enter Try.func20, Try.ntmps20
    go_wp2_with (first | (go_at_call 32; refine (c_isArea _ _).mono ?_; rintro e w1 ⟨rfl, hb1⟩; obtain ⟨hc1, hf1⟩ := bcell hb1; have hz1 := hb1.size; (try simp only [World.size_alloc] at hz1); (try (have hy1 : w.heap.size < w1.heap.size := by omega)); (try (have hx1 := Nat.lt_of_succ_le hz1)); (try (have hv1 := Nat.lt_of_succ_le (Nat.le_of_lt hx1)))))
    refine bodyPost_ret (v := .tuple #[.agg #[.int .i64 (-n * n), .int .i64 0], .bool true]) (by simp [results, Try.results20, go_sem, hc1]) rfl ⟨rfl, ?_⟩
    (repeat' (first | (with_reducible exact Below.refl _ _) | (with_reducible refine below_step (by assumption) ?_ ?_) | (with_reducible refine Below.alloc ?_ ?_ _) | (with_reducible refine Below.setCell ?_ ?_ _) | (with_reducible refine below_drewN ?_ _) | (with_reducible refine Below.drew ?_) | omega | (simp; omega) | (simp; done)))
end Go.Proofs.Ytcnfjapoopdiaaa
