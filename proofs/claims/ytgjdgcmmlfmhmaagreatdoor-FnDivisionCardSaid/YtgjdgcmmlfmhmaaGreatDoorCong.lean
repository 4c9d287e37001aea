/- Plain: congruences. -/
import Derived.WalkKit
namespace Go.Proofs.YtgjdgcmmlfmhmaaGreatDoor

def Cg (p a b : Int) : Prop := a % p = b % p
theorem Cg.refl (p a : Int) : Cg p a a := rfl
theorem Cg.symm {p a b : Int} (h : Cg p a b) : Cg p b a := Eq.symm h
theorem Cg.trans {p a b c : Int} (h : Cg p a b) (k : Cg p b c) : Cg p a c := Eq.trans h k
theorem Cg.add {p a b c d : Int} (h : Cg p a b) (k : Cg p c d) : Cg p (a + c) (b + d) := by
  unfold Cg at *; rw [Int.add_emod, h, k, ← Int.add_emod]
theorem Cg.sub {p a b c d : Int} (h : Cg p a b) (k : Cg p c d) : Cg p (a - c) (b - d) := by
  unfold Cg at *; rw [Int.sub_emod, h, k, ← Int.sub_emod]
theorem Cg.mul {p a b c d : Int} (h : Cg p a b) (k : Cg p c d) : Cg p (a * c) (b * d) := by
  unfold Cg at *; rw [Int.mul_emod, h, k, ← Int.mul_emod]
theorem Cg.neg {p a b : Int} (h : Cg p a b) : Cg p (-a) (-b) := by
  have := Cg.sub (Cg.refl p 0) h; simpa using this
theorem Cg.mod (p a : Int) : Cg p (a % p) a := Int.emod_emod_of_dvd _ (Int.dvd_refl p)
theorem Cg.mod' {p a b : Int} (h : Cg p a b) : Cg p (a % p) b := (Cg.mod p a).trans h
theorem Cg.eq {p a b : Int} (h : Cg p a b) : a % p = b % p := h
end Go.Proofs.YtgjdgcmmlfmhmaaGreatDoor
