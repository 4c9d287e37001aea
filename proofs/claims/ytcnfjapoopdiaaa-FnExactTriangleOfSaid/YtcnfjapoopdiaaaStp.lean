/- Plain: steps of the calculator and of the reference's fractions, each with its result as an unknown. -/
import Derived.Test.YtcnfjapoopdiaaaCalcB
import Derived.Test.YtcnfjapoopdiaaaFrOps
import Derived.Test.YtcnfjapoopdiaaaIsLaw
namespace Go.Proofs.Ytcnfjapoopdiaaa
open Go.RowKit

theorem and_l {a b : Bool} (h : (a && b) = true) : a = true := by simp at h; exact h.1
theorem and_r {a b : Bool} (h : (a && b) = true) : b = true := by simp at h; exact h.2
theorem ks_times (n d m e : Int) (o : Bool) (hA : frOk n d = true) (hB : frOk m e = true) : ∃ (x y : Int) (o' : Bool), Kq 37 [.agg #[.int .i64 n, .int .i64 d], .agg #[.int .i64 m, .int .i64 e]] o x y o' ∧ frOk x y = true ∧ o' = (o && mOk (n * m) (d * e)) ∧ (o' = true → x = mkN (n * m) (d * e) ∧ y = mkD (n * m) (d * e)) :=
  ⟨_, _, _, k_times n d m e o hA hB, fr_if, rfl, fun h => by rw [h]; exact ⟨rfl, rfl⟩⟩
theorem ks_plus (n d m e : Int) (o : Bool) (hA : frOk n d = true) (hB : frOk m e = true) : ∃ (x y : Int) (o' : Bool), Kq 40 [.agg #[.int .i64 n, .int .i64 d], .agg #[.int .i64 m, .int .i64 e]] o x y o' ∧ frOk x y = true ∧ o' = (o && mOk (n * e + m * d) (d * e)) ∧ (o' = true → x = mkN (n * e + m * d) (d * e) ∧ y = mkD (n * e + m * d) (d * e)) :=
  ⟨_, _, _, k_plus n d m e o hA hB, fr_if, rfl, fun h => by rw [h]; exact ⟨rfl, rfl⟩⟩
theorem ks_minus (n d m e : Int) (o : Bool) (hA : frOk n d = true) (hB : frOk m e = true) : ∃ (x y : Int) (o' : Bool), Kq 38 [.agg #[.int .i64 n, .int .i64 d], .agg #[.int .i64 m, .int .i64 e]] o x y o' ∧ frOk x y = true ∧ o' = (o && mOk (n * e - m * d) (d * e)) ∧ (o' = true → x = mkN (n * e - m * d) (d * e) ∧ y = mkD (n * e - m * d) (d * e)) :=
  ⟨_, _, _, k_minus n d m e o hA hB, fr_if, rfl, fun h => by rw [h]; exact ⟨rfl, rfl⟩⟩
theorem ks_over (n d m e : Int) (o : Bool) (hA : frOk n d = true) (hB : frOk m e = true) : ∃ (x y : Int) (o' : Bool), Kq 39 [.agg #[.int .i64 n, .int .i64 d], .agg #[.int .i64 m, .int .i64 e]] o x y o' ∧ frOk x y = true ∧ o' = (o && mOk (n * e) (d * m)) ∧ (o' = true → x = mkN (n * e) (d * m) ∧ y = mkD (n * e) (d * m)) :=
  ⟨_, _, _, k_over n d m e o hA hB, fr_if, rfl, fun h => by rw [h]; exact ⟨rfl, rfl⟩⟩
theorem ks_whole (n : Int) (o : Bool) (h : -1000000000 ≤ n ∧ n ≤ 1000000000) : ∃ (x y : Int), Kq 36 [.int .i64 n] o x y o ∧ frOk x y = true ∧ (o = true → x = n ∧ y = 1) := by
  obtain ⟨m1, m2, m3⟩ := mk_one h
  have k := k_whole n o (by omega)
  rw [m1, m2, m3, Bool.and_true] at k
  refine ⟨_, _, k, ?_, fun h => by rw [h]; exact ⟨rfl, rfl⟩⟩
  have := fr_if (o := o) (n := n) (d := 1)
  rw [m1, m2, m3, Bool.and_true] at this
  exact this
theorem ks_keep (n d : Int) (o ok : Bool) : Kq 34 [.agg #[.int .i64 n, .int .i64 d], .bool ok] o (if o && ok then n else 0) (if o && ok then d else 1) (o && ok) :=
  fun c w ⟨h1, h2, h3⟩ => (c_keep c n d o ok w h1 h2 h3).mono fun _ _ ⟨he, ho, k1, k2⟩ => ⟨he, ho.over, k1, k2, Nat.lt_of_lt_of_le h3 ho.size⟩
theorem ts_frMul (n d m e : Int) (g : Bool) (hA : g = true → frOk n d = true) (hB : g = true → frOk m e = true) : ∃ (x y : Int) (b : Bool), (g = true → Hid (∀ w : World, Calls Try.prog 49 #[.agg #[.int .i64 n, .int .i64 d], .agg #[.int .i64 m, .int .i64 e]] w fun r w' => r = .returned (.tuple #[.agg #[.int .i64 x, .int .i64 y], .bool b]) ∧ Below w.heap.size w w')) ∧ (g = true → b = mOk (n * m) (d * e)) ∧ (g = true → b = true → frOk x y = true ∧ x = mkN (n * m) (d * e) ∧ y = mkD (n * m) (d * e)) ∧ (b = true → g = true) := by
  cases g
  · exact ⟨0, 0, false, fun h => by simp at h, fun h => by simp at h, fun h => by simp at h, fun h => by simp at h⟩
  · exact ⟨_, _, _, fun _ => Lib.hid (c_frMul n d m e (hA rfl) (hB rfl)), fun _ => rfl, fun _ h => by rw [h]; exact ⟨mOk_fr h, rfl, rfl⟩, fun _ => rfl⟩
theorem ts_frAdd (n d m e : Int) (g : Bool) (hA : g = true → frOk n d = true) (hB : g = true → frOk m e = true) : ∃ (x y : Int) (b : Bool), (g = true → Hid (∀ w : World, Calls Try.prog 48 #[.agg #[.int .i64 n, .int .i64 d], .agg #[.int .i64 m, .int .i64 e]] w fun r w' => r = .returned (.tuple #[.agg #[.int .i64 x, .int .i64 y], .bool b]) ∧ Below w.heap.size w w')) ∧ (g = true → b = mOk (n * e + m * d) (d * e)) ∧ (g = true → b = true → frOk x y = true ∧ x = mkN (n * e + m * d) (d * e) ∧ y = mkD (n * e + m * d) (d * e)) ∧ (b = true → g = true) := by
  cases g
  · exact ⟨0, 0, false, fun h => by simp at h, fun h => by simp at h, fun h => by simp at h, fun h => by simp at h⟩
  · exact ⟨_, _, _, fun _ => Lib.hid (c_frAdd n d m e (hA rfl) (hB rfl)), fun _ => rfl, fun _ h => by rw [h]; exact ⟨mOk_fr h, rfl, rfl⟩, fun _ => rfl⟩
theorem ts_frSub (n d m e : Int) (g : Bool) (hA : g = true → frOk n d = true) (hB : g = true → frOk m e = true) : ∃ (x y : Int) (b : Bool), (g = true → Hid (∀ w : World, Calls Try.prog 57 #[.agg #[.int .i64 n, .int .i64 d], .agg #[.int .i64 m, .int .i64 e]] w fun r w' => r = .returned (.tuple #[.agg #[.int .i64 x, .int .i64 y], .bool b]) ∧ Below w.heap.size w w')) ∧ (g = true → b = mOk (n * e - m * d) (d * e)) ∧ (g = true → b = true → frOk x y = true ∧ x = mkN (n * e - m * d) (d * e) ∧ y = mkD (n * e - m * d) (d * e)) ∧ (b = true → g = true) := by
  cases g
  · exact ⟨0, 0, false, fun h => by simp at h, fun h => by simp at h, fun h => by simp at h, fun h => by simp at h⟩
  · exact ⟨_, _, _, fun _ => Lib.hid (c_frSub n d m e (hA rfl) (hB rfl)), fun _ => rfl, fun _ h => by rw [h]; exact ⟨mOk_fr h, rfl, rfl⟩, fun _ => rfl⟩
theorem ts_frDiv (n d m e : Int) (g : Bool) (hA : g = true → frOk n d = true) (hB : g = true → frOk m e = true) : ∃ (x y : Int) (b : Bool), (g = true → Hid (∀ w : World, Calls Try.prog 51 #[.agg #[.int .i64 n, .int .i64 d], .agg #[.int .i64 m, .int .i64 e]] w fun r w' => r = .returned (.tuple #[.agg #[.int .i64 x, .int .i64 y], .bool b]) ∧ Below w.heap.size w w')) ∧ (g = true → b = mOk (n * e) (d * m)) ∧ (g = true → b = true → frOk x y = true ∧ x = mkN (n * e) (d * m) ∧ y = mkD (n * e) (d * m)) ∧ (b = true → g = true) := by
  cases g
  · exact ⟨0, 0, false, fun h => by simp at h, fun h => by simp at h, fun h => by simp at h, fun h => by simp at h⟩
  · exact ⟨_, _, _, fun _ => Lib.hid (c_frDiv n d m e (hA rfl) (hB rfl)), fun _ => rfl, fun _ h => by rw [h]; exact ⟨mOk_fr h, rfl, rfl⟩, fun _ => rfl⟩
end Go.Proofs.Ytcnfjapoopdiaaa
