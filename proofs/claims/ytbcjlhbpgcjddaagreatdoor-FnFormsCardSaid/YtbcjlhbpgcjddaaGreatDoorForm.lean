/- Walks: counts of ternary forms. -/
import Derived.Test.YtbcjlhbpgcjddaaGreatDoorFac
namespace Go.Proofs.YtbcjlhbpgcjddaaGreatDoor
open Go.RowKit

/-- f at -6, .., k - 7, summed up -/
def sumF (f : Int → Int) : Nat → Int
  | 0 => 0
  | k + 1 => sumF f k + f ((k : Int) - 6)
theorem sumF_bd (f : Int → Int) (B : Int) (hf : ∀ x, 0 ≤ f x ∧ f x ≤ B) : ∀ k : Nat, 0 ≤ sumF f k ∧ sumF f k ≤ k * B
  | 0 => by simp [sumF]
  | k + 1 => by
    have := sumF_bd f B hf k
    have h2 := hf ((k : Int) - 6)
    rw [show ((k + 1 : Nat) : Int) * B = k * B + B by rw [Int.natCast_succ, Int.add_mul, Int.one_mul]]
    unfold sumF
    omega
def hitF (a b n x y z : Int) : Int := if a * x * x + y * y + b * z * z = n then 1 else 0
def rowZ (a b n x y : Int) (k : Nat) : Int := sumF (hitF a b n x y) k
def rowY (a b n x : Int) (k : Nat) : Int := sumF (fun y => rowZ a b n x y 13) k
def rowX (a b n : Int) (k : Nat) : Int := sumF (fun x => rowY a b n x 13) k
def formV (a b n : Int) : Int := rowX a b n 13
theorem hitF_bd (a b n x y z : Int) : 0 ≤ hitF a b n x y z ∧ hitF a b n x y z ≤ 1 := by unfold hitF; split <;> omega
theorem rowZ_bd (a b n x y : Int) (k : Nat) : 0 ≤ rowZ a b n x y k ∧ rowZ a b n x y k ≤ k := by have := sumF_bd _ 1 (hitF_bd a b n x y) k; unfold rowZ; omega
theorem rowY_bd (a b n x : Int) (k : Nat) : 0 ≤ rowY a b n x k ∧ rowY a b n x k ≤ k * 13 := sumF_bd _ 13 (fun y => by have := rowZ_bd a b n x y 13; omega) k
theorem rowX_bd (a b n : Int) (k : Nat) : 0 ≤ rowX a b n k ∧ rowX a b n k ≤ k * 169 := sumF_bd _ 169 (fun y => by have := rowY_bd a b n y 13; omega) k
theorem formV_bd (a b n : Int) : 0 ≤ formV a b n ∧ formV a b n ≤ 2197 := by have := rowX_bd a b n 13; unfold formV; omega
theorem form_bd {a b x y z : Int} (ha : 0 ≤ a ∧ a ≤ 4) (hb : 0 ≤ b ∧ b ≤ 32) (hx : -6 ≤ x ∧ x ≤ 6) (hy : -6 ≤ y ∧ y ≤ 6) (hz : -6 ≤ z ∧ z ≤ 6) :
    (-24 ≤ a * x ∧ a * x ≤ 24) ∧ (-144 ≤ a * x * x ∧ a * x * x ≤ 144) ∧ (-36 ≤ y * y ∧ y * y ≤ 36) ∧ (-192 ≤ b * z ∧ b * z ≤ 192) ∧ (-1152 ≤ b * z * z ∧ b * z * z ≤ 1152) := by
  have h1 := mulb (x := a) (y := x) 4 6 (by omega) hx
  have h2 := mulb (x := a * x) (y := x) 24 6 (by omega) hx
  have h3 := mulb (x := y) (y := y) 6 6 hy hy
  have h4 := mulb (x := b) (y := z) 32 6 (by omega) hz
  have h5 := mulb (x := b * z) (y := z) 192 6 (by omega) hz
  omega
set_option maxHeartbeats 1000000 in
theorem c_cnForm (a b n : Int) (ha : 0 ≤ a ∧ a ≤ 4) (hb : 0 ≤ b ∧ b ≤ 32) (w : World) :
    Calls Tryz.prog 106 #[.int .i64 a, .int .i64 b, .int .i64 n] w fun e w' => e = .returned (.int .i64 (formV a b n)) ∧ w = w' := by
  go_enter Tryz.func106, Tryz.ntmps106
  go_wp2
  go_loop [7, 8] (fun c x => ∃ k : Nat, k ≤ 13 ∧ c = .int .i64 (rowX a b n k) ∧ x = .int .i64 ((k : Int) - 6)) (fun _ x => (7 - intOf x).toNat)
  case atStart => exact ⟨0, by omega, rfl, rfl⟩
  case round =>
    obtain ⟨k, hk, rfl, rfl⟩ := hrel
    have bX := rowX_bd a b n k
    by_cases hlt : k < 13
    · have HX : Hid (rowX a b n (k + 1) = rowX a b n k + rowY a b n ((k : Int) - 6) 13) := rfl
      generalize hx : (k : Int) - 6 = x at *
      go_wp2
      go_loop [7, 9] (fun c y => ∃ j : Nat, j ≤ 13 ∧ c = .int .i64 (rowX a b n k + rowY a b n x j) ∧ y = .int .i64 ((j : Int) - 6)) (fun _ y => (7 - intOf y).toNat)
      case atStart => exact ⟨0, by omega, by simp [rowY, sumF], rfl⟩
      case round =>
        obtain ⟨j, hj, rfl, rfl⟩ := hrel
        have bY := rowY_bd a b n x j
        by_cases hlt2 : j < 13
        · have HY : Hid (rowY a b n x (j + 1) = rowY a b n x j + rowZ a b n x ((j : Int) - 6) 13) := rfl
          generalize hy : (j : Int) - 6 = y at *
          go_wp2
          go_loop [7, 10] (fun c z => ∃ i : Nat, i ≤ 13 ∧ c = .int .i64 (rowX a b n k + rowY a b n x j + rowZ a b n x y i) ∧ z = .int .i64 ((i : Int) - 6)) (fun _ z => (7 - intOf z).toNat)
          case atStart => exact ⟨0, by omega, by simp [rowZ, sumF], rfl⟩
          case round =>
            obtain ⟨i, hi, rfl, rfl⟩ := hrel
            have bZ := rowZ_bd a b n x y i
            by_cases hlt3 : i < 13
            · have HZ : Hid (rowZ a b n x y (i + 1) = rowZ a b n x y i + hitF a b n x y ((i : Int) - 6)) := rfl
              generalize hz : (i : Int) - 6 = z at *
              obtain ⟨f1, f2, f3, f4, f5⟩ := form_bd (x := x) (y := y) (z := z) ha hb (by omega) (by omega) (by omega)
              by_cases ht : a * x * x + y * y + b * z * z = n
              · have HZ2 : Hid (rowZ a b n x y (i + 1) = rowZ a b n x y i + 1) := by show _ = _; rw [HZ.out]; unfold hitF; rw [if_pos ht]
                have hh : (a * x * x + y * y + b * z * z == n) = true := by simpa using ht
                clear HZ ht
                go_wp2
                go_round
                case rel => exact ⟨i + 1, by omega, by rw [HZ2.out]; go_num, by go_num⟩
                case measure => simp [intOf]; omega
              · have HZ2 : Hid (rowZ a b n x y (i + 1) = rowZ a b n x y i) := by show _ = _; rw [HZ.out]; unfold hitF; rw [if_neg ht, Int.add_zero]
                have hh : (a * x * x + y * y + b * z * z == n) = false := by simpa using ht
                clear HZ ht
                go_wp2
                go_round
                case rel => exact ⟨i + 1, by omega, by rw [HZ2.out], by go_num⟩
                case measure => simp [intOf]; omega
            · obtain rfl : i = 13 := by omega
              go_wp2
              go_round
              case rel => exact ⟨j + 1, by omega, by rw [HY.out]; go_num, by go_num⟩
              case measure => simp [intOf]; omega
        · obtain rfl : j = 13 := by omega
          go_wp2
          go_round
          case rel => exact ⟨k + 1, by omega, by rw [HX.out], by go_num⟩
          case measure => simp [intOf]; omega
    · obtain rfl : k = 13 := by omega
      go_wp2
      go_ret
      exact ⟨rfl, rfl⟩
set_option maxHeartbeats 2000000 in
theorem c_formCounts_odd (n : Int) (hn : 1 ≤ n ∧ n ≤ 31) (ho : n % 2 = 1) (w : World) :
    Calls Tryz.prog 45 #[.int .i64 n] w fun e w' => e = .returned (.tuple #[.int .i64 (formV 2 8 n), .int .i64 (formV 2 32 n)]) ∧ w = w' := by
  have h1 : (n % 2 == 0) = false := by simp; omega
  go_enter Tryz.func45, Tryz.ntmps45
  go_wp2
  go_loop [5, 6, 7] (fun c d x => ∃ k : Nat, k ≤ 13 ∧ c = .int .i64 (rowX 2 8 n k) ∧ d = .int .i64 (rowX 2 32 n k) ∧ x = .int .i64 ((k : Int) - 6)) (fun _ _ x => (7 - intOf x).toNat)
  case atStart => exact ⟨0, by omega, rfl, rfl, rfl⟩
  case round =>
    obtain ⟨k, hk, rfl, rfl, rfl⟩ := hrel
    have bX := rowX_bd 2 8 n k
    have bX' := rowX_bd 2 32 n k
    by_cases hlt : k < 13
    · have HX8 : Hid (rowX 2 8 n (k + 1) = rowX 2 8 n k + rowY 2 8 n ((k : Int) - 6) 13) := rfl
      have HX32 : Hid (rowX 2 32 n (k + 1) = rowX 2 32 n k + rowY 2 32 n ((k : Int) - 6) 13) := rfl
      generalize hx : (k : Int) - 6 = x at *
      go_wp2
      go_loop [5, 6, 8] (fun c d y => ∃ j : Nat, j ≤ 13 ∧ c = .int .i64 (rowX 2 8 n k + rowY 2 8 n x j) ∧ d = .int .i64 (rowX 2 32 n k + rowY 2 32 n x j) ∧ y = .int .i64 ((j : Int) - 6)) (fun _ _ y => (7 - intOf y).toNat)
      case atStart => exact ⟨0, by omega, by simp [rowY, sumF], by simp [rowY, sumF], rfl⟩
      case round =>
        obtain ⟨j, hj, rfl, rfl, rfl⟩ := hrel
        have bY := rowY_bd 2 8 n x j
        have bY' := rowY_bd 2 32 n x j
        by_cases hlt2 : j < 13
        · have HY8 : Hid (rowY 2 8 n x (j + 1) = rowY 2 8 n x j + rowZ 2 8 n x ((j : Int) - 6) 13) := rfl
          have HY32 : Hid (rowY 2 32 n x (j + 1) = rowY 2 32 n x j + rowZ 2 32 n x ((j : Int) - 6) 13) := rfl
          generalize hy : (j : Int) - 6 = y at *
          go_wp2
          go_loop [5, 6, 9] (fun c d z => ∃ i : Nat, i ≤ 13 ∧ c = .int .i64 (rowX 2 8 n k + rowY 2 8 n x j + rowZ 2 8 n x y i) ∧ d = .int .i64 (rowX 2 32 n k + rowY 2 32 n x j + rowZ 2 32 n x y i) ∧ z = .int .i64 ((i : Int) - 6)) (fun _ _ z => (7 - intOf z).toNat)
          case atStart => exact ⟨0, by omega, by simp [rowZ, sumF], by simp [rowZ, sumF], rfl⟩
          case round =>
            obtain ⟨i, hi, rfl, rfl, rfl⟩ := hrel
            have bZ := rowZ_bd 2 8 n x y i
            have bZ' := rowZ_bd 2 32 n x y i
            by_cases hlt3 : i < 13
            · have HZ8 : Hid (rowZ 2 8 n x y (i + 1) = rowZ 2 8 n x y i + hitF 2 8 n x y ((i : Int) - 6)) := rfl
              have HZ32 : Hid (rowZ 2 32 n x y (i + 1) = rowZ 2 32 n x y i + hitF 2 32 n x y ((i : Int) - 6)) := rfl
              generalize hz : (i : Int) - 6 = z at *
              obtain ⟨f1, f2, f3, f4, f5⟩ := form_bd (a := 2) (b := 8) (x := x) (y := y) (z := z) (by omega) (by omega) (by omega) (by omega) (by omega)
              obtain ⟨_, _, _, f6, f7⟩ := form_bd (a := 2) (b := 32) (x := x) (y := y) (z := z) (by omega) (by omega) (by omega) (by omega) (by omega)
              by_cases t8 : 2 * x * x + y * y + 8 * z * z = n
              · by_cases t32 : 2 * x * x + y * y + 32 * z * z = n
                · have HZ8' : Hid (rowZ 2 8 n x y (i + 1) = rowZ 2 8 n x y i + 1) := by show _ = _; rw [HZ8.out]; unfold hitF; rw [if_pos t8]
                  have h8 : (2 * x * x + y * y + 8 * z * z == n) = true := by simpa using t8
                  have HZ32' : Hid (rowZ 2 32 n x y (i + 1) = rowZ 2 32 n x y i + 1) := by show _ = _; rw [HZ32.out]; unfold hitF; rw [if_pos t32]
                  have h32 : (2 * x * x + y * y + 32 * z * z == n) = true := by simpa using t32
                  clear HZ8 HZ32 t8 t32
                  go_wp2
                  go_round
                  case rel => exact ⟨i + 1, by omega, by rw [HZ8'.out]; go_num, by rw [HZ32'.out]; go_num, by go_num⟩
                  case measure => simp [intOf]; omega
                · have HZ8' : Hid (rowZ 2 8 n x y (i + 1) = rowZ 2 8 n x y i + 1) := by show _ = _; rw [HZ8.out]; unfold hitF; rw [if_pos t8]
                  have h8 : (2 * x * x + y * y + 8 * z * z == n) = true := by simpa using t8
                  have HZ32' : Hid (rowZ 2 32 n x y (i + 1) = rowZ 2 32 n x y i) := by show _ = _; rw [HZ32.out]; unfold hitF; rw [if_neg t32, Int.add_zero]
                  have h32 : (2 * x * x + y * y + 32 * z * z == n) = false := by simpa using t32
                  clear HZ8 HZ32 t8 t32
                  go_wp2
                  go_round
                  case rel => exact ⟨i + 1, by omega, by rw [HZ8'.out]; go_num, by rw [HZ32'.out], by go_num⟩
                  case measure => simp [intOf]; omega
              · by_cases t32 : 2 * x * x + y * y + 32 * z * z = n
                · have HZ8' : Hid (rowZ 2 8 n x y (i + 1) = rowZ 2 8 n x y i) := by show _ = _; rw [HZ8.out]; unfold hitF; rw [if_neg t8, Int.add_zero]
                  have h8 : (2 * x * x + y * y + 8 * z * z == n) = false := by simpa using t8
                  have HZ32' : Hid (rowZ 2 32 n x y (i + 1) = rowZ 2 32 n x y i + 1) := by show _ = _; rw [HZ32.out]; unfold hitF; rw [if_pos t32]
                  have h32 : (2 * x * x + y * y + 32 * z * z == n) = true := by simpa using t32
                  clear HZ8 HZ32 t8 t32
                  go_wp2
                  go_round
                  case rel => exact ⟨i + 1, by omega, by rw [HZ8'.out], by rw [HZ32'.out]; go_num, by go_num⟩
                  case measure => simp [intOf]; omega
                · have HZ8' : Hid (rowZ 2 8 n x y (i + 1) = rowZ 2 8 n x y i) := by show _ = _; rw [HZ8.out]; unfold hitF; rw [if_neg t8, Int.add_zero]
                  have h8 : (2 * x * x + y * y + 8 * z * z == n) = false := by simpa using t8
                  have HZ32' : Hid (rowZ 2 32 n x y (i + 1) = rowZ 2 32 n x y i) := by show _ = _; rw [HZ32.out]; unfold hitF; rw [if_neg t32, Int.add_zero]
                  have h32 : (2 * x * x + y * y + 32 * z * z == n) = false := by simpa using t32
                  clear HZ8 HZ32 t8 t32
                  go_wp2
                  go_round
                  case rel => exact ⟨i + 1, by omega, by rw [HZ8'.out], by rw [HZ32'.out], by go_num⟩
                  case measure => simp [intOf]; omega
            · obtain rfl : i = 13 := by omega
              go_wp2
              go_round
              case rel => exact ⟨j + 1, by omega, by rw [HY8.out]; go_num, by rw [HY32.out]; go_num, by go_num⟩
              case measure => simp [intOf]; omega
        · obtain rfl : j = 13 := by omega
          go_wp2
          go_round
          case rel => exact ⟨_, _, _, ⟨k + 1, by omega, rfl, rfl, rfl⟩, by rw [HX8.out], by rw [HX32.out], by go_num⟩
          case measure => simp [intOf]; omega
    · obtain rfl : k = 13 := by omega
      go_wp2
      go_ret2
      exact ⟨rfl, rfl⟩
set_option maxHeartbeats 2000000 in
theorem c_formCounts_even (N n : Int) (hN : 1 ≤ N ∧ N ≤ 31) (he : N % 2 = 0) (hn : N / 2 = n) (w : World) :
    Calls Tryz.prog 45 #[.int .i64 N] w fun e w' => e = .returned (.tuple #[.int .i64 (formV 4 8 n), .int .i64 (formV 4 32 n)]) ∧ w = w' := by
  have h1 : (N % 2 == 0) = true := by simp; omega
  have hn' : 0 ≤ n ∧ n ≤ 15 := by omega
  go_enter Tryz.func45, Tryz.ntmps45
  go_wp2
  go_loop [5, 6, 7] (fun c d x => ∃ k : Nat, k ≤ 13 ∧ c = .int .i64 (rowX 4 8 n k) ∧ d = .int .i64 (rowX 4 32 n k) ∧ x = .int .i64 ((k : Int) - 6)) (fun _ _ x => (7 - intOf x).toNat)
  case atStart => exact ⟨0, by omega, rfl, rfl, rfl⟩
  case round =>
    obtain ⟨k, hk, rfl, rfl, rfl⟩ := hrel
    have bX := rowX_bd 4 8 n k
    have bX' := rowX_bd 4 32 n k
    by_cases hlt : k < 13
    · have HX8 : Hid (rowX 4 8 n (k + 1) = rowX 4 8 n k + rowY 4 8 n ((k : Int) - 6) 13) := rfl
      have HX32 : Hid (rowX 4 32 n (k + 1) = rowX 4 32 n k + rowY 4 32 n ((k : Int) - 6) 13) := rfl
      generalize hx : (k : Int) - 6 = x at *
      go_wp2
      go_loop [5, 6, 8] (fun c d y => ∃ j : Nat, j ≤ 13 ∧ c = .int .i64 (rowX 4 8 n k + rowY 4 8 n x j) ∧ d = .int .i64 (rowX 4 32 n k + rowY 4 32 n x j) ∧ y = .int .i64 ((j : Int) - 6)) (fun _ _ y => (7 - intOf y).toNat)
      case atStart => exact ⟨0, by omega, by simp [rowY, sumF], by simp [rowY, sumF], rfl⟩
      case round =>
        obtain ⟨j, hj, rfl, rfl, rfl⟩ := hrel
        have bY := rowY_bd 4 8 n x j
        have bY' := rowY_bd 4 32 n x j
        by_cases hlt2 : j < 13
        · have HY8 : Hid (rowY 4 8 n x (j + 1) = rowY 4 8 n x j + rowZ 4 8 n x ((j : Int) - 6) 13) := rfl
          have HY32 : Hid (rowY 4 32 n x (j + 1) = rowY 4 32 n x j + rowZ 4 32 n x ((j : Int) - 6) 13) := rfl
          generalize hy : (j : Int) - 6 = y at *
          go_wp2
          go_loop [5, 6, 9] (fun c d z => ∃ i : Nat, i ≤ 13 ∧ c = .int .i64 (rowX 4 8 n k + rowY 4 8 n x j + rowZ 4 8 n x y i) ∧ d = .int .i64 (rowX 4 32 n k + rowY 4 32 n x j + rowZ 4 32 n x y i) ∧ z = .int .i64 ((i : Int) - 6)) (fun _ _ z => (7 - intOf z).toNat)
          case atStart => exact ⟨0, by omega, by simp [rowZ, sumF], by simp [rowZ, sumF], rfl⟩
          case round =>
            obtain ⟨i, hi, rfl, rfl, rfl⟩ := hrel
            have bZ := rowZ_bd 4 8 n x y i
            have bZ' := rowZ_bd 4 32 n x y i
            by_cases hlt3 : i < 13
            · have HZ8 : Hid (rowZ 4 8 n x y (i + 1) = rowZ 4 8 n x y i + hitF 4 8 n x y ((i : Int) - 6)) := rfl
              have HZ32 : Hid (rowZ 4 32 n x y (i + 1) = rowZ 4 32 n x y i + hitF 4 32 n x y ((i : Int) - 6)) := rfl
              generalize hz : (i : Int) - 6 = z at *
              obtain ⟨f1, f2, f3, f4, f5⟩ := form_bd (a := 4) (b := 8) (x := x) (y := y) (z := z) (by omega) (by omega) (by omega) (by omega) (by omega)
              obtain ⟨_, _, _, f6, f7⟩ := form_bd (a := 4) (b := 32) (x := x) (y := y) (z := z) (by omega) (by omega) (by omega) (by omega) (by omega)
              by_cases t8 : 4 * x * x + y * y + 8 * z * z = n
              · by_cases t32 : 4 * x * x + y * y + 32 * z * z = n
                · have HZ8' : Hid (rowZ 4 8 n x y (i + 1) = rowZ 4 8 n x y i + 1) := by show _ = _; rw [HZ8.out]; unfold hitF; rw [if_pos t8]
                  have h8 : (4 * x * x + y * y + 8 * z * z == n) = true := by simpa using t8
                  have HZ32' : Hid (rowZ 4 32 n x y (i + 1) = rowZ 4 32 n x y i + 1) := by show _ = _; rw [HZ32.out]; unfold hitF; rw [if_pos t32]
                  have h32 : (4 * x * x + y * y + 32 * z * z == n) = true := by simpa using t32
                  clear HZ8 HZ32 t8 t32
                  go_wp2
                  go_round
                  case rel => exact ⟨i + 1, by omega, by rw [HZ8'.out]; go_num, by rw [HZ32'.out]; go_num, by go_num⟩
                  case measure => simp [intOf]; omega
                · have HZ8' : Hid (rowZ 4 8 n x y (i + 1) = rowZ 4 8 n x y i + 1) := by show _ = _; rw [HZ8.out]; unfold hitF; rw [if_pos t8]
                  have h8 : (4 * x * x + y * y + 8 * z * z == n) = true := by simpa using t8
                  have HZ32' : Hid (rowZ 4 32 n x y (i + 1) = rowZ 4 32 n x y i) := by show _ = _; rw [HZ32.out]; unfold hitF; rw [if_neg t32, Int.add_zero]
                  have h32 : (4 * x * x + y * y + 32 * z * z == n) = false := by simpa using t32
                  clear HZ8 HZ32 t8 t32
                  go_wp2
                  go_round
                  case rel => exact ⟨i + 1, by omega, by rw [HZ8'.out]; go_num, by rw [HZ32'.out], by go_num⟩
                  case measure => simp [intOf]; omega
              · by_cases t32 : 4 * x * x + y * y + 32 * z * z = n
                · have HZ8' : Hid (rowZ 4 8 n x y (i + 1) = rowZ 4 8 n x y i) := by show _ = _; rw [HZ8.out]; unfold hitF; rw [if_neg t8, Int.add_zero]
                  have h8 : (4 * x * x + y * y + 8 * z * z == n) = false := by simpa using t8
                  have HZ32' : Hid (rowZ 4 32 n x y (i + 1) = rowZ 4 32 n x y i + 1) := by show _ = _; rw [HZ32.out]; unfold hitF; rw [if_pos t32]
                  have h32 : (4 * x * x + y * y + 32 * z * z == n) = true := by simpa using t32
                  clear HZ8 HZ32 t8 t32
                  go_wp2
                  go_round
                  case rel => exact ⟨i + 1, by omega, by rw [HZ8'.out], by rw [HZ32'.out]; go_num, by go_num⟩
                  case measure => simp [intOf]; omega
                · have HZ8' : Hid (rowZ 4 8 n x y (i + 1) = rowZ 4 8 n x y i) := by show _ = _; rw [HZ8.out]; unfold hitF; rw [if_neg t8, Int.add_zero]
                  have h8 : (4 * x * x + y * y + 8 * z * z == n) = false := by simpa using t8
                  have HZ32' : Hid (rowZ 4 32 n x y (i + 1) = rowZ 4 32 n x y i) := by show _ = _; rw [HZ32.out]; unfold hitF; rw [if_neg t32, Int.add_zero]
                  have h32 : (4 * x * x + y * y + 32 * z * z == n) = false := by simpa using t32
                  clear HZ8 HZ32 t8 t32
                  go_wp2
                  go_round
                  case rel => exact ⟨i + 1, by omega, by rw [HZ8'.out], by rw [HZ32'.out], by go_num⟩
                  case measure => simp [intOf]; omega
            · obtain rfl : i = 13 := by omega
              go_wp2
              go_round
              case rel => exact ⟨j + 1, by omega, by rw [HY8.out]; go_num, by rw [HY32.out]; go_num, by go_num⟩
              case measure => simp [intOf]; omega
        · obtain rfl : j = 13 := by omega
          go_wp2
          go_round
          case rel => exact ⟨_, _, _, ⟨k + 1, by omega, rfl, rfl, rfl⟩, by rw [HX8.out], by rw [HX32.out], by go_num⟩
          case measure => simp [intOf]; omega
    · obtain rfl : k = 13 := by omega
      go_wp2
      go_ret2
      exact ⟨rfl, rfl⟩
noncomputable def fcA (n : Int) : Int := if n % 2 = 1 then formV 2 8 n else formV 4 8 (n / 2)
noncomputable def fcB (n : Int) : Int := if n % 2 = 1 then formV 2 32 n else formV 4 32 (n / 2)
theorem fc_bd (n : Int) : (0 ≤ fcA n ∧ fcA n ≤ 2197) ∧ (0 ≤ fcB n ∧ fcB n ≤ 2197) := by
  unfold fcA fcB
  have h1 := formV_bd 2 8 n
  have h2 := formV_bd 4 8 (n / 2)
  have h3 := formV_bd 2 32 n
  have h4 := formV_bd 4 32 (n / 2)
  constructor <;> (split <;> omega)
theorem c_formCounts (n : Int) (hn : 1 ≤ n ∧ n ≤ 31) (w : World) :
    Calls Tryz.prog 45 #[.int .i64 n] w fun e w' => e = .returned (.tuple #[.int .i64 (fcA n), .int .i64 (fcB n)]) ∧ w = w' := by
  unfold fcA fcB
  by_cases h : n % 2 = 1
  · rw [if_pos h, if_pos h]; exact c_formCounts_odd n hn h w
  · rw [if_neg h, if_neg h]; exact c_formCounts_even n (n / 2) hn (by omega) rfl w
theorem c_cnCounts (n : Int) (hn : 1 ≤ n ∧ n ≤ 31) (w : World) :
    Calls Tryz.prog 47 #[.int .i64 n] w fun e w' => e = .returned (.tuple #[.int .i64 (fcA n), .int .i64 (fcB n)]) ∧ w = w' := by
  unfold fcA fcB
  by_cases h : n % 2 = 1
  · rw [if_pos h, if_pos h]
    have h1 : (n % 2 == 1) = true := by simpa using h
    go_enter Tryz.func47, Tryz.ntmps47
    go_wp2_with ((go_at_call 106; refine (c_cnForm _ _ _ (by omega) (by omega) _).mono ?_; rintro e w' ⟨rfl, rfl⟩))
    go_ret2
    exact ⟨rfl, rfl⟩
  · rw [if_neg h, if_neg h]
    have h1 : (n % 2 == 1) = false := by simpa using h
    go_enter Tryz.func47, Tryz.ntmps47
    go_wp2_with ((go_at_call 106; refine (c_cnForm _ _ _ (by omega) (by omega) _).mono ?_; rintro e w' ⟨rfl, rfl⟩))
    go_ret2
    exact ⟨rfl, rfl⟩
theorem c_specFormCounts (n : Int) (w : World) :
    Calls Tryz.prog 7 #[.int .i64 n] w fun e w' => e = .returned (.tuple #[.int .i64 (if areaB n then fcA n else 0), .int .i64 (if areaB n then fcB n else 0), .bool (areaB n)]) ∧ Below w.heap.size w w' := by
  cases h : areaB n
  · go_enter Tryz.func7, Tryz.ntmps7
    go_wp2_with ((go_at_call 46; refine (c_cnGood _ _).mono ?_; rintro e w1 ⟨rfl, hb1⟩; obtain ⟨hc1, hf1⟩ := bcell hb1; have hz1 := hb1.size; (try simp only [World.size_alloc] at hz1); (try (have hy1 : w.heap.size < w1.heap.size := by omega)); (try (have hx1 := Nat.lt_of_succ_le hz1)); (try (have hv1 := Nat.lt_of_succ_le (Nat.le_of_lt hx1)))))
    go_returns
    refine ⟨rfl, ?_⟩
    (repeat' (first | (with_reducible exact Below.refl _ _) | (with_reducible refine below_step (by assumption) ?_ ?_) | (with_reducible refine Below.alloc ?_ ?_ _) | (with_reducible refine Below.setCell ?_ ?_ _) | (with_reducible refine below_drewN ?_ _) | (with_reducible refine Below.drew ?_) | omega | (simp; omega) | (simp; done)))
  · have hn := congA_of h
    go_enter Tryz.func7, Tryz.ntmps7
    go_wp2_with (first | (go_at_call 46; refine (c_cnGood _ _).mono ?_; rintro e w1 ⟨rfl, hb1⟩; obtain ⟨hc1, hf1⟩ := bcell hb1; have hz1 := hb1.size; (try simp only [World.size_alloc] at hz1); (try (have hy1 : w.heap.size < w1.heap.size := by omega)); (try (have hx1 := Nat.lt_of_succ_le hz1)); (try (have hv1 := Nat.lt_of_succ_le (Nat.le_of_lt hx1)))) | (go_at_call 47; refine (c_cnCounts _ hn _).mono ?_; rintro e w' ⟨rfl, rfl⟩))
    go_returns
    refine ⟨rfl, ?_⟩
    (repeat' (first | (with_reducible exact Below.refl _ _) | (with_reducible refine below_step (by assumption) ?_ ?_) | (with_reducible refine Below.alloc ?_ ?_ _) | (with_reducible refine Below.setCell ?_ ?_ _) | (with_reducible refine below_drewN ?_ _) | (with_reducible refine Below.drew ?_) | omega | (simp; omega) | (simp; done)))
theorem c_implFormCounts (n : Int) (w : World) :
    Calls Tryz.prog 6 #[.int .i64 n] w fun e w' => e = .returned (.tuple #[.int .i64 (if areaB n then fcA n else 0), .int .i64 (if areaB n then fcB n else 0), .bool (areaB n)]) ∧ Below w.heap.size w w' := by
  cases h : areaB n
  · go_enter Tryz.func6, Tryz.ntmps6
    go_wp2_with ((go_at_call 44; refine (c_isArea _ _).mono ?_; rintro e w1 ⟨rfl, hb1⟩; obtain ⟨hc1, hf1⟩ := bcell hb1; have hz1 := hb1.size; (try simp only [World.size_alloc] at hz1); (try (have hy1 : w.heap.size < w1.heap.size := by omega)); (try (have hx1 := Nat.lt_of_succ_le hz1)); (try (have hv1 := Nat.lt_of_succ_le (Nat.le_of_lt hx1)))))
    go_returns
    refine ⟨rfl, ?_⟩
    (repeat' (first | (with_reducible exact Below.refl _ _) | (with_reducible refine below_step (by assumption) ?_ ?_) | (with_reducible refine Below.alloc ?_ ?_ _) | (with_reducible refine Below.setCell ?_ ?_ _) | (with_reducible refine below_drewN ?_ _) | (with_reducible refine Below.drew ?_) | omega | (simp; omega) | (simp; done)))
  · have hn := congA_of h
    go_enter Tryz.func6, Tryz.ntmps6
    go_wp2_with (first | (go_at_call 44; refine (c_isArea _ _).mono ?_; rintro e w1 ⟨rfl, hb1⟩; obtain ⟨hc1, hf1⟩ := bcell hb1; have hz1 := hb1.size; (try simp only [World.size_alloc] at hz1); (try (have hy1 : w.heap.size < w1.heap.size := by omega)); (try (have hx1 := Nat.lt_of_succ_le hz1)); (try (have hv1 := Nat.lt_of_succ_le (Nat.le_of_lt hx1)))) | (go_at_call 45; refine (c_formCounts _ hn _).mono ?_; rintro e w' ⟨rfl, rfl⟩))
    go_returns
    refine ⟨rfl, ?_⟩
    (repeat' (first | (with_reducible exact Below.refl _ _) | (with_reducible refine below_step (by assumption) ?_ ?_) | (with_reducible refine Below.alloc ?_ ?_ _) | (with_reducible refine Below.setCell ?_ ?_ _) | (with_reducible refine below_drewN ?_ _) | (with_reducible refine Below.drew ?_) | omega | (simp; omega) | (simp; done)))
noncomputable def mayB (n : Int) : Bool := fcA n == 2 * fcB n
theorem c_cnMay (n : Int) (hn : 1 ≤ n ∧ n ≤ 31) (w : World) :
    Calls Tryz.prog 48 #[.int .i64 n] w fun e w' => e = .returned (.bool (mayB n)) ∧ w = w' := by
  have hb := fc_bd n
  go_enter Tryz.func48, Tryz.ntmps48
  go_wp2_with ((go_at_call 47; refine (c_cnCounts _ hn _).mono ?_; rintro e w' ⟨rfl, rfl⟩))
  go_ret
  exact ⟨rfl, rfl⟩
theorem c_specMay (n : Int) (w : World) :
    Calls Tryz.prog 9 #[.int .i64 n] w fun e w' => e = .returned (.tuple #[.bool (areaB n && mayB n), .bool (areaB n)]) ∧ Below w.heap.size w w' := by
  cases h : areaB n
  · go_enter Tryz.func9, Tryz.ntmps9
    go_wp2_with ((go_at_call 46; refine (c_cnGood _ _).mono ?_; rintro e w1 ⟨rfl, hb1⟩; obtain ⟨hc1, hf1⟩ := bcell hb1; have hz1 := hb1.size; (try simp only [World.size_alloc] at hz1); (try (have hy1 : w.heap.size < w1.heap.size := by omega)); (try (have hx1 := Nat.lt_of_succ_le hz1)); (try (have hv1 := Nat.lt_of_succ_le (Nat.le_of_lt hx1)))))
    go_ret2
    refine ⟨rfl, ?_⟩
    (repeat' (first | (with_reducible exact Below.refl _ _) | (with_reducible refine below_step (by assumption) ?_ ?_) | (with_reducible refine Below.alloc ?_ ?_ _) | (with_reducible refine Below.setCell ?_ ?_ _) | (with_reducible refine below_drewN ?_ _) | (with_reducible refine Below.drew ?_) | omega | (simp; omega) | (simp; done)))
  · have hn := congA_of h
    go_enter Tryz.func9, Tryz.ntmps9
    go_wp2_with (first | (go_at_call 46; refine (c_cnGood _ _).mono ?_; rintro e w1 ⟨rfl, hb1⟩; obtain ⟨hc1, hf1⟩ := bcell hb1; have hz1 := hb1.size; (try simp only [World.size_alloc] at hz1); (try (have hy1 : w.heap.size < w1.heap.size := by omega)); (try (have hx1 := Nat.lt_of_succ_le hz1)); (try (have hv1 := Nat.lt_of_succ_le (Nat.le_of_lt hx1)))) | (go_at_call 48; refine (c_cnMay _ hn _).mono ?_; rintro e w' ⟨rfl, rfl⟩))
    go_ret2
    refine ⟨rfl, ?_⟩
    (repeat' (first | (with_reducible exact Below.refl _ _) | (with_reducible refine below_step (by assumption) ?_ ?_) | (with_reducible refine Below.alloc ?_ ?_ _) | (with_reducible refine Below.setCell ?_ ?_ _) | (with_reducible refine below_drewN ?_ _) | (with_reducible refine Below.drew ?_) | omega | (simp; omega) | (simp; done)))
theorem c_implMay (n : Int) (w : World) :
    Calls Tryz.prog 8 #[.int .i64 n] w fun e w' => e = .returned (.tuple #[.bool (areaB n && mayB n), .bool (areaB n)]) ∧ Below w.heap.size w w' := by
  have hb := fc_bd n
  cases h : areaB n
  · go_enter Tryz.func8, Tryz.ntmps8
    go_wp2_with ((go_at_call 44; refine (c_isArea _ _).mono ?_; rintro e w1 ⟨rfl, hb1⟩; obtain ⟨hc1, hf1⟩ := bcell hb1; have hz1 := hb1.size; (try simp only [World.size_alloc] at hz1); (try (have hy1 : w.heap.size < w1.heap.size := by omega)); (try (have hx1 := Nat.lt_of_succ_le hz1)); (try (have hv1 := Nat.lt_of_succ_le (Nat.le_of_lt hx1)))))
    go_ret2
    refine ⟨rfl, ?_⟩
    (repeat' (first | (with_reducible exact Below.refl _ _) | (with_reducible refine below_step (by assumption) ?_ ?_) | (with_reducible refine Below.alloc ?_ ?_ _) | (with_reducible refine Below.setCell ?_ ?_ _) | (with_reducible refine below_drewN ?_ _) | (with_reducible refine Below.drew ?_) | omega | (simp; omega) | (simp; done)))
  · have hn := congA_of h
    go_enter Tryz.func8, Tryz.ntmps8
    go_wp2_with (first | (go_at_call 44; refine (c_isArea _ _).mono ?_; rintro e w1 ⟨rfl, hb1⟩; obtain ⟨hc1, hf1⟩ := bcell hb1; have hz1 := hb1.size; (try simp only [World.size_alloc] at hz1); (try (have hy1 : w.heap.size < w1.heap.size := by omega)); (try (have hx1 := Nat.lt_of_succ_le hz1)); (try (have hv1 := Nat.lt_of_succ_le (Nat.le_of_lt hx1)))) | (go_at_call 45; refine (c_formCounts _ hn _).mono ?_; rintro e w' ⟨rfl, rfl⟩))
    go_ret2
    refine ⟨rfl, ?_⟩
    (repeat' (first | (with_reducible exact Below.refl _ _) | (with_reducible refine below_step (by assumption) ?_ ?_) | (with_reducible refine Below.alloc ?_ ?_ _) | (with_reducible refine Below.setCell ?_ ?_ _) | (with_reducible refine below_drewN ?_ _) | (with_reducible refine Below.drew ?_) | omega | (simp; omega) | (simp; done)))
end Go.Proofs.YtbcjlhbpgcjddaaGreatDoor
