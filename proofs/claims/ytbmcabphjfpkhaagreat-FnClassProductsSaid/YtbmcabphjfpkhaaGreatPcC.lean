/- Plain: the numbers that are drawn for the laws of classes, and which of them are classes. -/
import Derived.Test.YtbmcabphjfpkhaaGreatPcG
import Derived.Test.YtbmcabphjfpkhaaGreatNum
namespace Go.Proofs.YtbmcabphjfpkhaaGreat

/-- a number that is drawn: a code's, or one of six -/
def ClsV (v : Int) : Prop := (∃ x, x < 512 ∧ v = cdV x) ∨ v = 0 ∨ v = 4 ∨ v = 12 ∨ v = 1000001 ∨ v = -1000001 ∨ v = -999999
def clB (v : Int) : Bool := inB v (-1000000) 1000000 && (!(v == 0) && sqf v == v)
theorem cdV_abs (x : Nat) : (cdV x).natAbs = cdN x := by unfold cdV; split <;> omega
theorem cdV_ne (x : Nat) : cdV x ≠ 0 := by
  have h1 := cdV_abs x
  have h2 := cdN_pos x
  omega
theorem cdV_in (x : Nat) : inB (cdV x) (-1000000) 1000000 = decide (cdN x ≤ 1000000) := by
  have h := cdV_abs x
  unfold inB
  rw [Bool.eq_iff_iff]
  simp
  omega
theorem cd_ok {x : Nat} (h : x < 512) (hN : cdN x ≤ 1000000) : pcOk (cdV x) = true ∧ sqf (cdV x) = cdV x ∧ cls (cdV x) = cdV x := by
  have h1 := nAllP_of cd_cls x h
  unfold cdCls at h1
  rw [Nat.ble_eq_true_of_le hN] at h1
  simpa using h1
theorem no_ok {v : Int} (h : v = 4 ∨ v = 12 ∨ v = -999999) : pcOk v = true ∧ (sqf v == v) = false ∧ (cls v == v) = false := by
  have h1 := no_cls
  unfold noCls at h1
  simp only [Bool.and_eq_true, Bool.not_eq_true'] at h1
  rcases h with rfl | rfl | rfl
  · exact ⟨h1.1.1, h1.1.2.1, h1.1.2.2⟩
  · exact ⟨h1.2.1.1, h1.2.1.2.1, h1.2.1.2.2⟩
  · exact ⟨h1.2.2.1, h1.2.2.2.1, h1.2.2.2.2⟩
theorem clsv_ok {v : Int} (h : ClsV v) (h0 : v ≠ 0) (hb : -1000000 ≤ v ∧ v ≤ 1000000) : pcOk v = true ∧ (cls v == v) = (sqf v == v) := by
  rcases h with ⟨x, hx, rfl⟩ | h
  · have hN : cdN x ≤ 1000000 := by have := cdV_abs x; omega
    obtain ⟨h1, h2, h3⟩ := cd_ok hx hN
    exact ⟨h1, by rw [h2, h3]⟩
  · obtain ⟨h1, h2, h3⟩ := no_ok (v := v) (by omega)
    exact ⟨h1, by rw [h2, h3]⟩
theorem clB_cd {x : Nat} (h : x < 512) : clB (cdV x) = decide (cdN x ≤ 1000000) := by
  unfold clB
  rw [cdV_in]
  by_cases hN : cdN x ≤ 1000000
  · obtain ⟨_, h2, _⟩ := cd_ok h hN
    rw [h2]
    have := cdV_ne x
    simp [hN, this]
  · simp [hN]
theorem clB_yes {v : Int} (h : ClsV v) (hc : clB v = true) : ∃ x, x < 512 ∧ v = cdV x ∧ cdN x ≤ 1000000 := by
  rcases h with ⟨x, hx, rfl⟩ | h
  · rw [clB_cd hx] at hc
    exact ⟨x, hx, rfl, by simpa using hc⟩
  · exfalso
    unfold clB at hc
    simp only [Bool.and_eq_true, Bool.not_eq_true'] at hc
    rcases h with rfl | rfl | rfl | rfl | rfl | rfl
    · simp at hc
    · rw [(no_ok (.inl rfl)).2.1] at hc; simp at hc
    · rw [(no_ok (.inr (.inl rfl))).2.1] at hc; simp at hc
    · simp [inB] at hc
    · simp [inB] at hc
    · rw [(no_ok (.inr (.inr rfl))).2.1] at hc; simp at hc
theorem xor_lt {x y : Nat} (hx : x < 512) (hy : y < 512) : x ^^^ y < 512 := Nat.xor_lt_two_pow (n := 9) hx hy
end Go.Proofs.YtbmcabphjfpkhaaGreat
