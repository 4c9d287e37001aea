/- Walks: triangles, their sides without signs, the less leg first. -/
import Derived.Test.YtahjlgbhgaeioaaTri
import Derived.Test.YtahjlgbhgaeioaaChain
import Derived.BigRegion
namespace Go.Proofs.Ytahjlgbhgaeioaa
open Go.RowKit

def absI (n : Int) : Int := n.natAbs
def ordB (a x b y : Int) : Bool := decide (absI b * x < absI a * y)
/-- a/x, b/y, c/z without signs, the less one of the first two first -/
def ordV (a x b y c z : Int) : Value := if ordB a x b y then triV (absI b) y (absI a) x (absI c) z else triV (absI a) x (absI b) y (absI c) z
theorem frOk_abs {n d : Int} (h : frOk n d = true) : frOk (absI n) d = true := by
  have hb := frOk_of h
  unfold frOk at h ⊢
  simp only [Bool.and_eq_true] at h ⊢
  refine ⟨⟨h.1.1, ?_⟩, ?_⟩
  · unfold inB absI; simp; omega
  · rw [← h.2]; congr 1
end Go.Proofs.Ytahjlgbhgaeioaa
