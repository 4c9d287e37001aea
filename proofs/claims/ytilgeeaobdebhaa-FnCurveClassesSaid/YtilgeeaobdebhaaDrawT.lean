/- Walks: the arguments drawn for the laws of the tables. -/
import Derived.Test.YtilgeeaobdebhaaDraw
namespace Go.Proofs.Ytilgeeaobdebhaa
open Go.RowKit

/-- a cursor made anew -/
theorem Cur.new {v : Value} {xs : List Int} {w : World} (h : RdB w w.heap.size v xs) : Cur w.heap.size w.heap.size v xs 0 (w.alloc (.cells #[v, .int .i64 0, .int .u64 0] 52)) :=
  ⟨Nat.le_refl _, by simp, h.below ((Below.refl _ _).alloc (Nat.le_refl _) _) (Nat.le_refl _), 0, 0, Nat.le_refl _, by omega, by omega, Blk.new w _ _⟩
theorem below_over {w w' : World} {o : Obj} (h : Over [w.heap.size] (w.alloc o) w') : Below w.heap.size w w' :=
  h.belowGe ((Below.refl _ _).alloc (Nat.le_refl _) o) (by simp) (by simp)
def OnePost (lo hi : Int) (w : World) (e : Ending) (w' : World) : Prop := ∃ p : Int, e = .returned (.int .i64 p) ∧ lo ≤ p ∧ p ≤ hi ∧ Below w.heap.size w w'
def TwoPost (w : World) (e : Ending) (w' : World) : Prop := ∃ p n : Int, e = .returned (.tuple #[.int .i64 p, .int .i64 n]) ∧ 0 ≤ p ∧ p ≤ 37 ∧ -9223372036854775808 ≤ n ∧ n ≤ 9223372036854775807 ∧ Below w.heap.size w w'
theorem c_drawTrace (v : Value) (xs : List Int) (w : World) (h : RdB w w.heap.size v xs) : Calls Try.prog 6 #[v] w (OnePost 0 37 w) := by
  have hc := Cur.new h
  obtain ⟨a, cap, rfl, _⟩ := h
  go_enter Try.func6, Try.ntmps6
  go_wp2_with fail
  refine (c_tablePrime _ _ _ xs 0 (by omega) _ hc).mono ?_
  rintro e w2 ⟨p, rfl, p0, p1, hc2, o2⟩
  go_wp2
  go_ret
  exact ⟨p, rfl, p0, p1, below_over o2⟩
theorem c_drawCount (v : Value) (xs : List Int) (w : World) (h : RdB w w.heap.size v xs) : Calls Try.prog 32 #[v] w (OnePost 0 37 w) := by
  have HN := Lib.hid (c_drawTrace v xs w h)
  go_enter Try.func32, Try.ntmps32
  go_wp2_with fail
  refine HN.out.mono ?_
  rintro e w2 ⟨p, rfl, p0, p1, hb⟩
  go_wp2
  go_ret
  exact ⟨p, rfl, p0, p1, hb⟩
theorem c_drawWith (v : Value) (xs : List Int) (w : World) (h : RdB w w.heap.size v xs) : Calls Try.prog 13 #[v] w (TwoPost w) := by
  have hc := Cur.new h
  obtain ⟨a, cap, rfl, _⟩ := h
  go_enter Try.func13, Try.ntmps13
  go_wp2_with fail
  refine (c_tablePrime _ _ _ xs 0 (by omega) _ hc).mono ?_
  rintro e w2 ⟨p, rfl, p0, p1, hc2, o2⟩
  have hk2 := hc2.2.1
  have c3 := hc2.below (w1 := w2.alloc (.cells #[.int .i64 0, .int .i64 1, .int .i64 (-1), .int .i64 2, .int .i64 (-3), .int .i64 4, .int .i64 11, .int .i64 (-12), .int .i64 4611686018427387904] 3)) ((Below.refl _ _).alloc (Nat.le_refl _) _)
  go_wp2_with fail
  refine (c_among _ _ _ xs 4 (by omega) [0, 1, -1, 2, -3, 4, 11, -12, 4611686018427387904] (by simp) w2.heap.size (by omega) _ c3 (Blk.new w2 _ _)).mono ?_
  rintro e w4 ⟨y, hy, rfl, hc4, o4⟩
  have hy' : -12 ≤ y ∧ y ≤ 4611686018427387904 := by simp at hy; omega
  go_wp2
  go_ret2
  exact ⟨p, y, rfl, p0, p1, by omega, by omega, below_over (o2.trans ((over_alloc w2 _).trans o4))⟩
theorem c_drawFirst (v : Value) (xs : List Int) (w : World) (h : RdB w w.heap.size v xs) : Calls Try.prog 19 #[v] w (TwoPost w) := by
  have hc := Cur.new h
  obtain ⟨a, cap, rfl, _⟩ := h
  go_enter Try.func19, Try.ntmps19
  go_wp2_with fail
  refine (c_tablePrime _ _ _ xs 0 (by omega) _ hc).mono ?_
  rintro e w2 ⟨p, rfl, p0, p1, hc2, o2⟩
  have hk2 := hc2.2.1
  have c3 := hc2.below (w1 := w2.alloc (.cells #[.int .i64 (p + 1), .int .i64 p, .int .i64 (p + 2), .int .i64 (p - 3), .int .i64 (p + 4), .int .i64 0, .int .i64 (2 * p + 2), .int .i64 (-9223372036854775808)] 3)) ((Below.refl _ _).alloc (Nat.le_refl _) _)
  go_wp2_with fail
  refine (c_among _ _ _ xs 4 (by omega) [p + 1, p, p + 2, p - 3, p + 4, 0, 2 * p + 2, -9223372036854775808] (by simp) w2.heap.size (by omega) _ c3 (Blk.new w2 _ _)).mono ?_
  rintro e w4 ⟨y, hy, rfl, hc4, o4⟩
  have hy' : -9223372036854775808 ≤ y ∧ y ≤ 9223372036854775807 := by simp at hy; omega
  go_wp2
  go_ret2
  exact ⟨p, y, rfl, p0, p1, hy'.1, hy'.2, below_over (o2.trans ((over_alloc w2 _).trans o4))⟩
end Go.Proofs.Ytilgeeaobdebhaa
