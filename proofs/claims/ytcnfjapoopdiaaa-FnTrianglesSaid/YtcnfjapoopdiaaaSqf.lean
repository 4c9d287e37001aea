/- Walks: valuations, prime lists, square-free numbers. -/
import Derived.Test.YtcnfjapoopdiaaaList
import Derived.Test.YtcnfjapoopdiaaaSqfPlain
namespace Go.Proofs.Ytcnfjapoopdiaaa
open Go.RowKit

set_option maxHeartbeats 400000 in
theorem c_valuation (a p : Int) (ha : a ≠ 0) (hb : -1000000000000 ≤ a ∧ a ≤ 1000000000000) (hp : 2 ≤ p) (w : World) :
    Calls Try.prog 98 #[.int .i64 a, .int .i64 p] w fun e w' => e = .returned (.int .i64 (val a p)) ∧ w = w' := by
  go_enter Try.func98, Try.ntmps98
  go_wp2
  go_loop [0, 5] (fun x n => ∃ (b c : Int) (f : Nat), x = .int .i64 b ∧ n = .int .i64 c ∧ Hid (b ≠ 0) ∧ (-1000000000000 ≤ b ∧ b ≤ 1000000000000) ∧ b.natAbs ≤ f ∧ 0 ≤ c ∧ c + b.natAbs ≤ 1000000000000 ∧ Hid (c + valF f b p = val a p)) (fun x _ => (intOf x).natAbs)
  case atStart => exact ⟨a, 0, a.natAbs, rfl, rfl, ha, hb, Nat.le_refl _, by omega, by omega, by show _ = _; rw [Int.zero_add]; rfl⟩
  case round =>
    obtain ⟨b, c, f, rfl, rfl, hb0, hbb, hf, hc, hcb, H⟩ := hrel
    by_cases hz : b % p = 0
    · obtain ⟨e1, e2, e3, e4⟩ := div_facts hb0.out hp hz
      obtain ⟨f', rfl⟩ : ∃ f', f = f' + 1 := ⟨f - 1, by have := hb0.out; omega⟩
      have H1 := Lib.hid (valF_yes f' hz)
      have H3 := Lib.hid e3
      have hh : (b.tmod p == 0) = true := by simp [e1]
      clear e1 e3 hz
      go_wp2
      go_round
      case rel => exact ⟨b / p, c + 1, f', rfl, rfl, H3.out, by omega, by omega, by omega, by omega, by show _ = _; have := H.out; rw [H1.out] at this; omega⟩
      case measure => simp [intOf]; omega
    · have hh : (b.tmod p == 0) = false := by simpa using tmod_ne hz
      have H1 := Lib.hid (valF_no f hz)
      clear hz
      go_wp2
      go_ret
      refine ⟨?_, rfl⟩
      have := H.out
      rw [H1.out, Int.add_zero] at this
      rw [← this]; rfl
set_option maxHeartbeats 400000 in
theorem c_mdValuation (a p : Int) (ha : a ≠ 0) (hb : -1000000000000 ≤ a ∧ a ≤ 1000000000000) (hp : 2 ≤ p) (w : World) :
    Calls Try.prog 104 #[.int .i64 a, .int .i64 p] w fun e w' => e = .returned (.int .i64 (val a p)) ∧ w = w' := by
  go_enter Try.func104, Try.ntmps104
  go_wp2
  go_loop [0, 5] (fun x n => ∃ (b c : Int) (f : Nat), x = .int .i64 b ∧ n = .int .i64 c ∧ Hid (b ≠ 0) ∧ (-1000000000000 ≤ b ∧ b ≤ 1000000000000) ∧ b.natAbs ≤ f ∧ 0 ≤ c ∧ c + b.natAbs ≤ 1000000000000 ∧ Hid (c + valF f b p = val a p)) (fun x _ => (intOf x).natAbs)
  case atStart => exact ⟨a, 0, a.natAbs, rfl, rfl, ha, hb, Nat.le_refl _, by omega, by omega, by show _ = _; rw [Int.zero_add]; rfl⟩
  case round =>
    obtain ⟨b, c, f, rfl, rfl, hb0, hbb, hf, hc, hcb, H⟩ := hrel
    by_cases hz : b % p = 0
    · obtain ⟨e1, e2, e3, e4⟩ := div_facts hb0.out hp hz
      obtain ⟨f', rfl⟩ : ∃ f', f = f' + 1 := ⟨f - 1, by have := hb0.out; omega⟩
      have H1 := Lib.hid (valF_yes f' hz)
      have H3 := Lib.hid e3
      have hh : (b.tmod p == 0) = true := by simp [e1]
      clear e1 e3 hz
      go_wp2
      go_round
      case rel => exact ⟨b / p, c + 1, f', rfl, rfl, H3.out, by omega, by omega, by omega, by omega, by show _ = _; have := H.out; rw [H1.out] at this; omega⟩
      case measure => simp [intOf]; omega
    · have hh : (b.tmod p == 0) = false := by simpa using tmod_ne hz
      have H1 := Lib.hid (valF_no f hz)
      clear hz
      go_wp2
      go_ret
      refine ⟨?_, rfl⟩
      have := H.out
      rw [H1.out, Int.add_zero] at this
      rw [← this]; rfl
theorem ms_big {n y p : Int} {f' : Nat} (h1 : 1 < n) (_hf : msP n p ≤ f' + 1) (e : y = strip n n) : msP y (n + 1) ≤ f' ∧ msP y (n + 1) < msP n p := by
  rw [strip_self (by omega)] at e
  subst e
  unfold msP
  rw [if_pos h1]; simp
theorem ms_small {n y p : Int} {f' : Nat} (h1 : 1 < n) (hp : p ≤ n) (hf : msP n p ≤ f' + 1) (hyn : y ≤ n) : msP y (p + 1) ≤ f' ∧ msP y (p + 1) < msP n p := by
  unfold msP at *
  rw [if_pos h1] at *
  split <;> omega
set_option maxHeartbeats 1000000 in
theorem c_primesOf (m : Int) (hb : -10000000000 ≤ m ∧ m ≤ 10000000000) (w : World) :
    Calls Try.prog 97 #[.int .i64 m] w fun e w' => ∃ v, e = .returned v ∧ OwnsI w' w.heap.size v (primesL m.natAbs) ∧ Below w.heap.size w w' := by
  have hs : 0 ≤ m ∨ m < 0 := by omega
  rcases hs with hs | hs
  all_goals
    go_enter Try.func97, Try.ntmps97
    go_wp2
    go_loopw [0, 3, 4] (fun x v y wr => ∃ (n p : Int) (xs : List Int) (f : Nat), x = .int .i64 n ∧ y = .int .i64 p ∧ OwnsI wr w.heap.size v xs ∧ Below w.heap.size w wr ∧ 0 ≤ n ∧ n ≤ 10000000000 ∧ 2 ≤ p ∧ p ≤ 10000000001 ∧ ((xs.length : Int) + 2 ≤ p ∧ p ≤ 100001 ∨ n ≤ 1 ∧ xs.length ≤ 100001) ∧ (msP n p ≤ f ∧ True) ∧ Hid (xs ++ primesF f n p = primesL m.natAbs)) (fun x _ y _ => msP (intOf x) (intOf y))
    case atStart =>
      refine ⟨_, 2, [], 2 * m.natAbs, rfl, rfl, OwnsI.nil _ _, Below.refl _ _, by omega, by omega, by omega, by omega, .inl ⟨by simp, by omega⟩, ⟨?_, trivial⟩, ?_⟩
      · unfold msP; split <;> omega
      · show _ = _
        rw [List.nil_append]
        unfold primesL
        first | rw [show (m.natAbs : Int) = m by omega] | rw [show (m.natAbs : Int) = -m by omega]
        congr 1; omega
    case round =>
      obtain ⟨n, p, xs, f, rfl, rfl, hown, hbl, hn0, hn1, hp2, hpm, hps, ⟨hf, _⟩, H⟩ := hrel
      have hz := hbl.size
      by_cases h1 : 1 < n
      · have hps' : (xs.length : Int) + 2 ≤ p ∧ p ≤ 100001 := by omega
        have hpp : 0 ≤ p * p ∧ p * p ≤ 10000200001 := ⟨Int.mul_nonneg (by omega) (by omega), by have := Int.mul_le_mul hps'.2 hps'.2 (by omega) (by omega); omega⟩
        obtain ⟨f', rfl⟩ : ∃ f', f = f' + 1 := ⟨f - 1, by unfold msP at hf; rw [if_pos h1] at hf; omega⟩
        clear hps
        by_cases h2 : n < p * p
        · have HF : Hid (xs ++ primesF (f' + 1) n p = (xs ++ [n]) ++ primesF f' (strip n n) (n + 1)) := by
            show _ = _
            rw [primesF_big f' h1 h2, strip_self (by omega), primesF_one _ (by omega), List.append_nil]
          have HB : ∀ y : Int, Hid (y = strip n n) → (((xs ++ [n]).length : Int) + 2 ≤ n + 1 ∧ n + 1 ≤ 100001 ∨ y ≤ 1 ∧ (xs ++ [n]).length ≤ 100001) := fun y hy => .inr ⟨by rw [hy.out, strip_self (by omega)]; omega, by simp; omega⟩
          have HM : ∀ y : Int, Hid (y = strip n n) → 1 ≤ y → y ≤ n → (msP y (n + 1) ≤ f' ∧ msP y (n + 1) < msP n p) := fun y hy _ _ => ms_big h1 hf hy.out
          have hh : (n % n == 0) = true := by simp
          have hq : 2 ≤ n := by omega
          go_wp2_with (at_builtin; refine wpList_app_int (y := n) rfl _ _ rfl w.heap.size _ _ rfl hown rfl (by omega) hz ?_; intro v' w1 hown1 hb1 hg1)
          have hbl1 := hbl.trans hb1
          clear hh hg1 hb1 hown hbl
          go_loop [0] (fun x => ∃ (y : Int) (g : Nat), x = .int .i64 y ∧ 1 ≤ y ∧ y ≤ n ∧ y.toNat ≤ g ∧ Hid (stripF g y n = strip n n)) (fun x => (intOf x).toNat)
          case atStart => exact ⟨n, n.toNat, rfl, by omega, by omega, Nat.le_refl _, rfl⟩
          case round =>
            obtain ⟨y, g, rfl, hy1, hyn, hg, HS⟩ := hrel
            by_cases h5 : y % n = 0
            · obtain ⟨d1, d2⟩ := div_pos_facts hy1 hq h5
              obtain ⟨g', rfl⟩ : ∃ g', g = g' + 1 := ⟨g - 1, by omega⟩
              have HY := Lib.hid (stripF_yes g' h5)
              have hh5 : (y % n == 0) = true := by simp [h5]
              clear h5
              go_wp2
              go_round
              case rel => exact ⟨_, g', rfl, d1, by omega, by omega, by show _ = _; rw [← HY.out]; exact HS⟩
              case measure => simp [intOf]; omega
            · have HN := Lib.hid (stripF_no g h5)
              have hh5 : (y % n == 0) = false := by simp [h5]
              clear h5
              have HZ : Hid (y = strip n n) := HN.out.symm.trans HS
              clear HN HS
              go_wp2
              go_roundw
              case rel => exact ⟨y, n + 1, xs ++ [n], f', rfl, rfl, hown1, hbl1, by omega, by omega, by omega, by omega, HB y HZ, ⟨(HM y HZ hy1 hyn).1, trivial⟩, by show _ = _; rw [HZ.out, ← HF.out]; exact H⟩
              case measure => have := HM y HZ hy1 hyn; simp [intOf]; omega
        · obtain ⟨hr1, hr2⟩ := root_bd hp2 h2 hn1
          by_cases h3 : n % p = 0
          · have HF : Hid (xs ++ primesF (f' + 1) n p = (xs ++ [p]) ++ primesF f' (strip n p) (p + 1)) := by
              show _ = _
              rw [primesF_yes f' h1 h2 h3]; simp
            have HB : ∀ y : Int, Hid (y = strip n p) → (((xs ++ [p]).length : Int) + 2 ≤ p + 1 ∧ p + 1 ≤ 100001 ∨ y ≤ 1 ∧ (xs ++ [p]).length ≤ 100001) := fun y hy => .inl ⟨by simp; omega, by omega⟩
            have HM : ∀ y : Int, Hid (y = strip n p) → 1 ≤ y → y ≤ n → (msP y (p + 1) ≤ f' ∧ msP y (p + 1) < msP n p) := fun y _ _ hyn => ms_small h1 hr2 hf hyn
            have hh : (n % p == 0) = true := by simp [h3]
            have hq : 2 ≤ p := by omega
            clear h3
            go_wp2_with (at_builtin; refine wpList_app_int (y := p) rfl _ _ rfl w.heap.size _ _ rfl hown rfl (by omega) hz ?_; intro v' w1 hown1 hb1 hg1)
            have hbl1 := hbl.trans hb1
            clear hh hg1 hb1 hown hbl
            go_loop [0] (fun x => ∃ (y : Int) (g : Nat), x = .int .i64 y ∧ 1 ≤ y ∧ y ≤ n ∧ y.toNat ≤ g ∧ Hid (stripF g y p = strip n p)) (fun x => (intOf x).toNat)
            case atStart => exact ⟨n, n.toNat, rfl, by omega, by omega, Nat.le_refl _, rfl⟩
            case round =>
              obtain ⟨y, g, rfl, hy1, hyn, hg, HS⟩ := hrel
              by_cases h5 : y % p = 0
              · obtain ⟨d1, d2⟩ := div_pos_facts hy1 hq h5
                obtain ⟨g', rfl⟩ : ∃ g', g = g' + 1 := ⟨g - 1, by omega⟩
                have HY := Lib.hid (stripF_yes g' h5)
                have hh5 : (y % p == 0) = true := by simp [h5]
                clear h5
                go_wp2
                go_round
                case rel => exact ⟨_, g', rfl, d1, by omega, by omega, by show _ = _; rw [← HY.out]; exact HS⟩
                case measure => simp [intOf]; omega
              · have HN := Lib.hid (stripF_no g h5)
                have hh5 : (y % p == 0) = false := by simp [h5]
                clear h5
                have HZ : Hid (y = strip n p) := HN.out.symm.trans HS
                clear HN HS
                go_wp2
                go_roundw
                case rel => exact ⟨y, p + 1, xs ++ [p], f', rfl, rfl, hown1, hbl1, by omega, by omega, by omega, by omega, HB y HZ, ⟨(HM y HZ hy1 hyn).1, trivial⟩, by show _ = _; rw [HZ.out, ← HF.out]; exact H⟩
                case measure => have := HM y HZ hy1 hyn; simp [intOf]; omega
          · have HF : Hid (xs ++ primesF (f' + 1) n p = xs ++ primesF f' (strip n p) (p + 1)) := by
              show _ = _
              rw [primesF_no f' h1 h2 h3]; unfold strip; rw [stripF_no _ h3]
            have HB : ∀ y : Int, Hid (y = strip n p) → ((xs.length : Int) + 2 ≤ p + 1 ∧ p + 1 ≤ 100001 ∨ y ≤ 1 ∧ xs.length ≤ 100001) := fun y hy => .inl ⟨by omega, by omega⟩
            have HM : ∀ y : Int, Hid (y = strip n p) → 1 ≤ y → y ≤ n → (msP y (p + 1) ≤ f' ∧ msP y (p + 1) < msP n p) := fun y _ _ hyn => ms_small h1 hr2 hf hyn
            have hh : (n % p == 0) = false := by simp [h3]
            have hq : 2 ≤ p := by omega
            clear h3
            have hown1 := hown
            have hbl1 := hbl
            clear hown hbl
            go_wp2
            clear hh
            go_loop [0] (fun x => ∃ (y : Int) (g : Nat), x = .int .i64 y ∧ 1 ≤ y ∧ y ≤ n ∧ y.toNat ≤ g ∧ Hid (stripF g y p = strip n p)) (fun x => (intOf x).toNat)
            case atStart => exact ⟨n, n.toNat, rfl, by omega, by omega, Nat.le_refl _, rfl⟩
            case round =>
              obtain ⟨y, g, rfl, hy1, hyn, hg, HS⟩ := hrel
              by_cases h5 : y % p = 0
              · obtain ⟨d1, d2⟩ := div_pos_facts hy1 hq h5
                obtain ⟨g', rfl⟩ : ∃ g', g = g' + 1 := ⟨g - 1, by omega⟩
                have HY := Lib.hid (stripF_yes g' h5)
                have hh5 : (y % p == 0) = true := by simp [h5]
                clear h5
                go_wp2
                go_round
                case rel => exact ⟨_, g', rfl, d1, by omega, by omega, by show _ = _; rw [← HY.out]; exact HS⟩
                case measure => simp [intOf]; omega
              · have HN := Lib.hid (stripF_no g h5)
                have hh5 : (y % p == 0) = false := by simp [h5]
                clear h5
                have HZ : Hid (y = strip n p) := HN.out.symm.trans HS
                clear HN HS
                go_wp2
                go_roundw
                case rel => exact ⟨y, p + 1, xs, f', rfl, rfl, hown1, hbl1, by omega, by omega, by omega, by omega, HB y HZ, ⟨(HM y HZ hy1 hyn).1, trivial⟩, by show _ = _; rw [HZ.out, ← HF.out]; exact H⟩
                case measure => have := HM y HZ hy1 hyn; simp [intOf]; omega
      · have HF := Lib.hid (primesF_one f (p := p) (show n ≤ 1 by omega))
        go_wp2
        go_ret
        refine ⟨_, rfl, ?_, hbl⟩
        have := H.out
        rw [HF.out, List.append_nil] at this
        rw [← this]; exact hown
set_option maxHeartbeats 1000000 in
theorem c_squarefree (n : Int) (hn : n ≠ 0) (hb : -31 ≤ n ∧ n ≤ 31) (w : World) :
    Calls Try.prog 76 #[.int .i64 n] w fun e w' => e = .returned (.int .i64 (sqf n)) ∧ Below w.heap.size w w' := by
  have Hn := Lib.hid hn
  obtain ⟨hp1, hp2, hp3⟩ := part_small hb.1 hb.2
  have Hp2 := Lib.hid hp2
  have Hp3 := Lib.hid hp3
  have hs : 0 ≤ n ∨ n < 0 := by omega
  clear hn hp2 hp3
  rcases hs with hs | hs
  all_goals
    go_enter Try.func76, Try.ntmps76
    go_wp2_with fail
    refine (c_primesOf n (by omega) _).mono ?_
    rintro e w1 ⟨v, rfl, hown, hbl⟩
    obtain ⟨a, cap, rfl, hcell⟩ := hown.form
    have Hc := Lib.hid hcell
    clear hcell
    generalize hL : primesL n.natAbs = L at *
    have HL := Lib.hid hL
    clear hL hown
    go_wp2
    go_loop [3, 11] (fun o i => ∃ k : Nat, k ≤ L.length ∧ i = .int .i64 k ∧ o = .int .i64 (sqfF n (L.take k) (sgn n))) (fun _ i => L.length - (intOf i).toNat)
    case atStart => exact ⟨0, Nat.zero_le _, rfl, by simp [sqfF, sgn, hs] <;> omega⟩
    case round =>
      obtain ⟨k, hk, rfl, rfl⟩ := hrel
      by_cases hlt : k < L.length
      · obtain ⟨g, rfl, hcx, hgl⟩ := Hc.out k hlt
        have h2 := Hp2.out k hlt
        have h3 := Hp3.out k (by omega)
        have h4 := Hp3.out (k + 1) (by omega)
        have HS := Lib.hid (sqfF_take (n := n) L (sgn n) hlt)
        generalize hx : L[k]?.getD 0 = x at hcx h2 HS
        have HX := Lib.hid hx
        clear hx
        by_cases hv : val n x % 2 = 1
        · have hh : (val n x % 2 == 1) = true := by simp [hv]
          have h0 : 0 ≤ val n x := valF_nonneg _ _ _
          rw [if_pos hv] at HS
          have h5 : -31 ≤ sqfF n (L.take k) (sgn n) * x ∧ sqfF n (L.take k) (sgn n) * x ≤ 31 := by rw [← HS.out]; exact h4
          clear hv h4
          go_wp2_with ((go_at_call 98; refine (c_valuation _ _ Hn.out (by omega) (by omega) _).mono ?_; rintro e w' ⟨rfl, rfl⟩))
          go_round
          case rel => exact ⟨k + 1, by omega, by go_num, by rw [HS.out]⟩
          case measure => simp [intOf]; omega
        · have hh : (val n x % 2 == 1) = false := by simp [hv]
          have h0 : 0 ≤ val n x := valF_nonneg _ _ _
          rw [if_neg hv] at HS
          clear hv h4
          go_wp2_with ((go_at_call 98; refine (c_valuation _ _ Hn.out (by omega) (by omega) _).mono ?_; rintro e w' ⟨rfl, rfl⟩))
          go_round
          case rel => exact ⟨k + 1, by omega, by go_num, by rw [HS.out]⟩
          case measure => simp [intOf]; omega
      · go_wp2
        go_ret
        refine ⟨?_, hbl⟩
        have : L.take k = L := List.take_of_length_le (by omega)
        rw [this, ← HL.out]; rfl
end Go.Proofs.Ytcnfjapoopdiaaa
