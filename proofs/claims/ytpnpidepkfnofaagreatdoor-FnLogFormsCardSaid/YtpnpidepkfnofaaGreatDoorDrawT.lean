/- Walks: the arguments drawn for the laws of the tables. -/
import Derived.Test.YtpnpidepkfnofaaGreatDoorDraw
namespace Go.Proofs.YtpnpidepkfnofaaGreatDoor
open Go.RowKit

/-- a cursor made anew -/
theorem Cur.new {v : Value} {xs : List Int} {w : World} (h : RdB w w.heap.size v xs) : Cur w.heap.size w.heap.size v xs 0 (w.alloc (.cells #[v, .int .i64 0, .int .u64 0] 64)) :=
  ⟨Nat.le_refl _, by simp, h.below ((Below.refl _ _).alloc (Nat.le_refl _) _) (Nat.le_refl _), 0, 0, Nat.le_refl _, by omega, by omega, Blk.new w _ _⟩
theorem below_over {w w' : World} {o : Obj} (h : Over [w.heap.size] (w.alloc o) w') : Below w.heap.size w w' :=
  h.belowGe ((Below.refl _ _).alloc (Nat.le_refl _) o) (by simp) (by simp)
def OnePost (lo hi : Int) (w : World) (e : Ending) (w' : World) : Prop := ∃ p : Int, e = .returned (.int .i64 p) ∧ lo ≤ p ∧ p ≤ hi ∧ Below w.heap.size w w'
def TwoPost (w : World) (e : Ending) (w' : World) : Prop := ∃ p n : Int, e = .returned (.tuple #[.int .i64 p, .int .i64 n]) ∧ 0 ≤ p ∧ p ≤ 37 ∧ -9223372036854775808 ≤ n ∧ n ≤ 9223372036854775807 ∧ Below w.heap.size w w'
end Go.Proofs.YtpnpidepkfnofaaGreatDoor
