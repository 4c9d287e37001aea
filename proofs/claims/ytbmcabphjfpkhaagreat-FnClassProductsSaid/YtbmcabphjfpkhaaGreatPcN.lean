/- Plain: the least group with some classes, as the program and the reference make it. -/
import Derived.Test.YtbmcabphjfpkhaaGreatPcK
namespace Go.Proofs.YtbmcabphjfpkhaaGreat

/-- two strictly increasing lists with the same members are one -/
theorem srt_ext : ∀ (L M : List Int), L.Pairwise (· < ·) → M.Pairwise (· < ·) → (∀ x, x ∈ L ↔ x ∈ M) → L = M
  | [], [], _, _, _ => rfl
  | [], y :: M, _, _, h => by have := (h y).2 (by simp); simp at this
  | x :: L, [], _, _, h => by have := (h x).1 (by simp); simp at this
  | x :: L, y :: M, hL, hM, h => by
    rw [List.pairwise_cons] at hL hM
    have hxy : x = y := by
      rcases List.mem_cons.1 ((h x).1 (by simp)) with h1 | h1
      · exact h1
      · rcases List.mem_cons.1 ((h y).2 (by simp)) with h2 | h2
        · exact h2.symm
        · have a := hM.1 x h1
          have b := hL.1 y h2
          omega
    subst hxy
    refine congrArg (x :: ·) (srt_ext L M hL.2 hM.2 fun z => ?_)
    constructor
    · intro hz
      have := hL.1 z hz
      rcases List.mem_cons.1 ((h z).1 (by simp [hz])) with h1 | h1
      · omega
      · exact h1
    · intro hz
      have := hM.1 z hz
      rcases List.mem_cons.1 ((h z).2 (by simp [hz])) with h1 | h1
      · omega
      · exact h1
/-- the least group with some codes, if its numbers stay small and it is not too large -/
def genO : List Nat → List Nat → Option (List Nat)
  | out, [] => some out
  | out, d :: ds => if d ∈ out then genO out ds else if (out.all fun e => (cdN (d ^^^ e)).ble 1000000) && (2 * out.length).ble 64 then genO (out ++ out.map (d ^^^ ·)) ds else none
theorem genO_gen : ∀ (ds out r : List Nat), genO out ds = some r → r = genC out ds
  | [], out, r, h => by unfold genO at h; unfold genC; exact (Option.some.inj h).symm
  | d :: ds, out, r, h => by
    unfold genO at h
    unfold genC
    by_cases hd : d ∈ out
    · rw [if_pos hd] at h
      rw [if_pos hd]
      exact genO_gen ds out r h
    · rw [if_neg hd] at h
      rw [if_neg hd]
      split at h
      · exact genO_gen ds _ r h
      · cases h
end Go.Proofs.YtbmcabphjfpkhaaGreat
