/- Walks: whole square roots. -/
import Derived.Test.YtcnfjapoopdiaaaNum
import Derived.Test.YtcnfjapoopdiaaaFloat
namespace Go.Proofs.Ytcnfjapoopdiaaa
open Go.RowKit

def sqB (n : Int) : Bool := rtI n * rtI n == n
set_option maxHeartbeats 1000000 in
theorem c_frRoot (n : Int) (hn : 0 ≤ n ∧ n ≤ 4000000000000000000) (w : World) :
    Calls Try.prog 52 #[.int .i64 n] w fun e w' => e = .returned (.int .i64 (rtI n)) ∧ w = w' := by
  go_enter Try.func52, Try.ntmps52
  go_wp2
  go_loop [3, 4] (fun x y => ∃ a b : Int, x = .int .i64 a ∧ y = .int .i64 b ∧ (0 ≤ a ∧ a < b ∧ b ≤ 2000000001) ∧ Hid (a * a ≤ n ∧ n < b * b)) (fun x y => (intOf y - intOf x).toNat)
  case atStart => exact ⟨0, 2000000001, rfl, rfl, by omega, by omega, by omega⟩
  case round =>
    obtain ⟨a, b, rfl, rfl, hab, H⟩ := hrel
    by_cases h1 : 1 < b - a
    · have hm : a < (a + b) / 2 ∧ (a + b) / 2 < b := by omega
      have hb1 : 0 ≤ (a + b) / 2 ∧ (a + b) / 2 ≤ 2000000000 := by omega
      have hmm : 0 ≤ (a + b) / 2 * ((a + b) / 2) ∧ (a + b) / 2 * ((a + b) / 2) ≤ 4000000000000000000 := ⟨Int.mul_nonneg hb1.1 hb1.1, by have := Int.mul_le_mul hb1.2 hb1.2 hb1.1 (by omega); omega⟩
      by_cases h2 : (a + b) / 2 * ((a + b) / 2) ≤ n
      · have HH : Hid ((a + b) / 2 * ((a + b) / 2) ≤ n ∧ n < b * b) := ⟨h2, H.out.2⟩
        go_wp2
        go_round
        case rel => exact ⟨_, b, rfl, rfl, by omega, HH⟩
        case measure => simp [intOf]; omega
      · have HH : Hid (a * a ≤ n ∧ n < (a + b) / 2 * ((a + b) / 2)) := ⟨H.out.1, by omega⟩
        go_wp2
        go_round
        case rel => exact ⟨a, _, rfl, rfl, by omega, HH⟩
        case measure => simp [intOf]; omega
    · obtain rfl : b = a + 1 := by omega
      have he := rtI_uniq hab.1 H.out.1 H.out.2
      subst he
      go_wp2
      go_ret
      exact ⟨rfl, rfl⟩
theorem c_frSquare (n : Int) (hn : 0 ≤ n ∧ n ≤ 4000000000000000000) (w : World) :
    Calls Try.prog 95 #[.int .i64 n] w fun e w' => e = .returned (.bool (sqB n)) ∧ w = w' := by
  have h0 := rtI_nonneg n
  have h1 := (rtI_spec hn.1).1
  have h2 := Int.mul_nonneg h0 h0
  have hc := fun w => c_frRoot n hn w
  unfold sqB
  generalize rtI n = r at h0 h1 h2 hc
  go_enter Try.func95, Try.ntmps95
  go_wp2_with ((go_at_call 52; refine (hc _).mono ?_; rintro e w' ⟨rfl, rfl⟩))
  go_ret
  exact ⟨rfl, rfl⟩
theorem erE0 {b : Bool} {q : Int} (h : b = false) : Ending.returned (.tuple #[.int .i64 0, .bool false]) = .returned (.tuple #[.int .i64 (if b then q else 0), .bool b]) := by rw [h]; rfl
theorem erE1 {b : Bool} {q : Int} (h : b = true) : Ending.returned (.tuple #[.int .i64 q, .bool true]) = .returned (.tuple #[.int .i64 (if b then q else 0), .bool b]) := by rw [h]; rfl
theorem c_mathSqrt (s t : Nat) (h : FloatKind.f64.format.sqrt s = some t) (w : World) :
    Calls Try.prog 86 #[.float .f64 s] w fun e w' => e = .returned (.float .f64 t) ∧ w = w' := by
  have hr : ∀ w, (callFunc 100 #[.float .f64 s]).run Try.prog w = .ok (.value (.float .f64 t)) w := fun w => by
    rw [run_callFunc_extern Try.func100 (by kernel_rfl) (by kernel_rfl) (by kernel_rfl) (e := Extern.MathSqrt.sqrt) (by kernel_rfl)]
    have e : Extern.MathSqrt.sqrt #[.float .f64 s] = (match FloatKind.f64.format.sqrt s with | some r => pure (.float .f64 r) | none => (do pure (.float .f64 (← choose (.nanBits .f64 s s))))) := rfl
    rw [e, h]; rfl
  clear h
  go_enter Try.func86, Try.ntmps86
  go_wp2
  go_ret
  exact ⟨rfl, rfl⟩
set_option maxHeartbeats 1000000 in
theorem c_exactRoot (n : Int) (hn : 0 ≤ n ∧ n ≤ 1000000000) (w : World) :
    Calls Try.prog 46 #[.int .i64 n] w fun e w' => e = .returned (.tuple #[.int .i64 (if sqB n then rtI n else 0), .bool (sqB n)]) ∧ w = w' := by
  obtain ⟨k, rfl⟩ := Int.eq_ofNat_of_zero_le hn.1
  obtain ⟨s, m, e1, e2, hm⟩ := sqrtInt k (by omega)
  have hfl : floatOfInt .f64 (k : Int) = Ieee.double.nearest false k 0 := by
    show Ieee.double.nearest (decide ((k : Int) < 0)) (k : Int).natAbs 0 = _
    rw [show decide ((k : Int) < 0) = false by simp, Int.natAbs_natCast]
  have hcv : ∀ w, (convert 3 94 (.int .i64 (k : Int))).run Try.prog w = .ok (.float .f64 (Ieee.double.nearest false k 0)) w := fun w => by
    rw [← hfl]; exact run_convert_int_float w 3 94 .i64 .f64 (k : Int) (by kernel_rfl) (by kernel_rfl)
  have hfi : floatToIntVal .f64 s .i64 = some (m : Int) := by
    have e3 : (FloatKind.f64.decode s).toInt .zero = some (m : Int) := e2
    unfold floatToIntVal
    rw [e3]
    have a1 : IntKind.i64.min = -9223372036854775808 := by decide
    have a2 : IntKind.i64.max = 9223372036854775807 := by decide
    simp only
    rw [a1, a2, if_pos (by omega)]
  have hcb : ∀ w, (convert 94 3 (.float .f64 s)).run Try.prog w = .ok (.int .i64 (m : Int)) w := fun w => run_convert_float_int w 94 3 .f64 .i64 s (m : Int) (by kernel_rfl) (by kernel_rfl) hfi
  have hsq := fun w => c_mathSqrt _ s e1 w
  have HS := Lib.hid hsq
  clear e1 e2 hfl hfi hsq
  generalize Ieee.double.nearest false k 0 = f at hcv HS
  have hsp := rtI_spec hn.1
  have hr0 := rtI_nonneg (k : Int)
  have hlt := rtI_le (b := 40000) hn.1 (by omega) (by omega)
  have HU : Hid (∀ r : Int, 0 ≤ r → r * r ≤ (k : Int) → (k : Int) < (r + 1) * (r + 1) → r = rtI k) := fun r h0 h1 h2 => rtI_uniq h0 h1 h2
  generalize hk : (k : Int) = n at *
  have HSQ : Hid (sqB n = (rtI n * rtI n == n)) := rfl
  generalize rtI n = q at *
  generalize sqB n = b at *
  clear hk
  go_enter Try.func46, Try.ntmps46
  go_wp2_with (go_at_call 86; refine (HS.out _).mono ?_; rintro e w' ⟨rfl, rfl⟩)
  clear hcv hcb HS
  go_loop [4] (fun x => ∃ r : Int, x = .int .i64 r ∧ 0 ≤ r ∧ r ≤ 1000000) (fun x => (intOf x).toNat)
  case atStart => exact ⟨m, rfl, by omega, by omega⟩
  case round =>
    obtain ⟨r, rfl, h0, h1⟩ := hrel
    have hrr : 0 ≤ r * r ∧ r * r ≤ 1000000000000 := ⟨Int.mul_nonneg h0 h0, by have := Int.mul_le_mul h1 h1 h0 (by omega); omega⟩
    by_cases hgt : n < r * r
    · have hr1 : 1 ≤ r := by
        rcases Int.lt_or_le 0 r with h | h
        · omega
        · obtain rfl : r = 0 := by omega
          omega
      go_wp2
      go_round
      case rel => exact ⟨r - 1, rfl, by omega, by omega⟩
      case measure => simp [intOf]; omega
    · go_wp2
      go_loop [4] (fun x => ∃ r : Int, x = .int .i64 r ∧ 0 ≤ r ∧ r ≤ 1000000 ∧ Hid (r * r ≤ n)) (fun x => (1000000 - intOf x).toNat)
      case atStart => exact ⟨r, rfl, h0, h1, by show _ ≤ _; omega⟩
      case round =>
        clear h0 h1 hrr hgt
        obtain ⟨r, rfl, h0, h1, H⟩ := hrel
        have hr1 : r < 40000 := sq_lt (a := 40000) (by omega) h0 (by have := H.out; omega)
        have hrr : 0 ≤ (r + 1) * (r + 1) ∧ (r + 1) * (r + 1) ≤ 1000000000000 := ⟨Int.mul_nonneg (by omega) (by omega), by have := Int.mul_le_mul (show r + 1 ≤ 1000000 by omega) (show r + 1 ≤ 1000000 by omega) (by omega) (by omega); omega⟩
        have hrr0 : 0 ≤ r * r ∧ r * r ≤ 1000000000000 := ⟨Int.mul_nonneg h0 h0, by have := Int.mul_le_mul h1 h1 h0 (by omega); omega⟩
        by_cases hle : (r + 1) * (r + 1) ≤ n
        · have H2 := Lib.hid hle
          go_wp2
          go_round
          case rel => exact ⟨r + 1, rfl, by omega, by omega, H2⟩
          case measure => simp [intOf]; omega
        · have he := HU.out r h0 H.out (by omega)
          subst he
          cases hb : (r * r == n)
          · have hb' : (r * r != n) = true := by unfold bne; rw [hb]; rfl
            have HB : Hid (b = false) := by show _ = _; rw [HSQ.out, hb]
            have hbb := HB.out
            clear HSQ HB
            subst hbb
            go_wp2
            go_ret2
            exact ⟨rfl, rfl⟩
          · have hb' : (r * r != n) = false := by unfold bne; rw [hb]; rfl
            have HB : Hid (b = true) := by show _ = _; rw [HSQ.out, hb]
            have hbb := HB.out
            clear HSQ HB
            subst hbb
            go_wp2
            go_ret2
            exact ⟨rfl, rfl⟩
end Go.Proofs.Ytcnfjapoopdiaaa
